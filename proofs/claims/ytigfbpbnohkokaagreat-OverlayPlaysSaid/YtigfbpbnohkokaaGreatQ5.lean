/-
  Texts that belong together, laid into one file: U8, U9, O7, U10, O8, U11, U12, O9, O10, U13, O11, O12, U14, O13, U15, O14, V19, V27, U16, O15, O16, O17, U17, O18, U18, O19, O20, U19, O21, O22.
-/
import Derived.Test.YtigfbpbnohkokaaGreatQ4
namespace Go.Proofs.YtigfbpbnohkokaaGreat
open Go Go.Fw Go.RowKit
set_option linter.unusedVariables false
set_option linter.unusedSimpArgs false

def fsR (bf : Nat) (bv : Value) (u : Nat) (S : FSt) : List (Nat × Obj) := (bf, .cells (fsC bv u S).toArray 90 (0, 0)) :: (S.bm, S.om) :: cblks S.C
section
variable {S0 : Nat → Prop} {w0 w : World} {X T B L R : List (Nat × Obj)} {bf u : Nat} {bv : Value} {S : FSt} {E' : List Ent}
theorem St.tri (h : St S0 w0 (X ++ (fsB bf bv u S ++ T)) w) : St S0 w0 (tb S.bt S.E ++ (X ++ (fsR bf bv u S ++ T))) w := h.perm (perm_c fun p => by unfold fsB fsR; simp only [List.countP_append, List.countP_cons]; omega)
theorem St.tro (h : St S0 w0 (tb S.bt E' ++ (X ++ (fsR bf bv u S ++ T))) w) : St S0 w0 (X ++ (fsB bf bv u { S with E := E' } ++ T)) w := h.perm (perm_c fun p => by
 unfold fsB fsR
 have e : fsC bv u { S with E := E' } = fsC bv u S := rfl
 simp only [e, List.countP_append, List.countP_cons]
 omega)
theorem St.tro2 (h : St S0 w0 (tb S.bt S.E ++ ((X ++ (fsR bf bv u S ++ (B ++ L))) ++ R)) w) : St S0 w0 (X ++ (fsB bf bv u S ++ (B ++ (L ++ R)))) w := h.perm (perm_c fun p => by
 unfold fsB fsR
 simp only [List.countP_append, List.countP_cons]
 omega)
end
theorem withR_perm (l : List Raw) (x : Raw) : (withR l x).Perm (x :: l) := by
 unfold withR
 have e := List.takeWhile_append_dropWhile (p := fun y : Raw => decide (compareP y.1 x.1 < 0)) (l := l)
 conv => rhs; rw [← e]
 exact List.perm_middle
theorem usedL_with (l : List Raw) (x : Raw) : usedL (withR l x) = x.2.2.length + usedL l := by rw [usedL_perm (withR_perm l x), usedL_cons]
section
variable {base : BaseF} {S : FSt} {l : List Raw} {hf : HF} {c c' : Con} {p q d b : List UInt8} {E' : List Ent} {om' : Obj}
theorem FR.mkdir (h : FR base S l hf) (ht : TR E' (bareL (mkdirL l p).1)) : FR base { S with E := E' } (mkdirL l p).1 hf ∧ usedL (mkdirL l p).1 = usedL l := by
 by_cases h0 : (mkdirL l p).2 = 0
 ·have hl' : (mkdirL l p).1 = withR l (p, true, []) := by
   unfold mkdirL at h0 ⊢
   split
   ·rename_i h1
    rw [if_pos h1] at h0
    split
    ·rename_i h2; rw [if_pos h2] at h0; cases h0
    ·rename_i h2
     rw [if_neg h2] at h0
     split
     ·rename_i h3; rw [if_pos h3] at h0; cases h0
     ·rfl
   ·rename_i h1; rw [if_neg h1] at h0; exact absurd h0 h1
  rw [hl'] at ht ⊢
  have hu : usedL (withR l (p, true, [])) = usedL l := by rw [usedL_with]; simp
  refine ⟨h.tree ht (fun q d => ?_) (fun z hz hd => ?_) (by rw [hu]; exact h.us), hu⟩
  ·rw [withR_mem]
   exact ⟨fun h => h.elim (fun e => by cases e) id, .inr⟩
  ·rcases withR_mem.1 hz with rfl | hz
   ·rfl
   ·exact h.dd z hz hd
 ·rw [mkdirL_bad h0] at ht ⊢
  exact ⟨h.tree ht (fun _ _ => Iff.rfl) h.dd h.us, rfl⟩
/-- A file that is there may be taken away. -/
theorem FR.gone (h : FR base S l hf) (hm : (p, false, d) ∈ l) : (removeL l p).2 = 0 := by
 have hm' : (p, false, ([] : List UInt8)) ∈ bareL l := List.mem_map.2 ⟨_, hm, rfl⟩
 have hf := h.tr.find_row hm'
 obtain ⟨r1, r2, r3, r4⟩ := h.tr.row hm'
 have hb : busyL (bareL l) p = false := by
  cases hb : busyL (bareL l) p with
  | false => rfl
  | true =>
   have := (busy_iff h.tr.ti.gi h.tr.rel r1).1 hb
   exfalso
   apply this
   intro t
   simp only at r3 ⊢
   cases hg : absE S.E (splitN p ++ [t]) with
   | none => rfl
   | some v =>
    obtain ⟨b, n, h1, _⟩ := h.tr.ti.gi.pre hg (by simp)
    rw [r3] at h1; cases h1
 have h2 : (removeL (bareL l) p).2 = 0 := by
  unfold removeL
  rw [if_pos (by rw [hf]), if_neg r4, if_neg (by rw [hb]; simp)]
 rw [bare_remove] at h2
 exact h2
theorem remove_row (h0 : (removeL l p).2 = 0) : p ≠ [] ∧ (findL l p).2 = 0 ∧ (removeL l p).1 = l.eraseIdx (atR l p).toNat := by
 unfold removeL at h0 ⊢
 split
 ·rename_i h1
  rw [if_pos h1] at h0
  split
  ·rename_i h2; rw [if_pos h2] at h0; cases h0
  ·rename_i h2
   rw [if_neg h2] at h0
   split
   ·rename_i h3; rw [if_pos h3] at h0; cases h0
   ·exact ⟨h2, h1, rfl⟩
 ·rename_i h1; rw [if_neg h1] at h0; exact absurd h0 h1
theorem erase_perm {j : Nat} {x : Raw} (hx : l[j]? = some x) : (x :: l.eraseIdx j).Perm l := by
 conv => rhs; rw [split_at hx]
 rw [List.eraseIdx_eq_take_drop_succ]
 exact List.perm_middle.symm
theorem mem_erase {j : Nat} {x y : Raw} (hn : (l.map (·.1)).Nodup) (hx : l[j]? = some x) : y ∈ l.eraseIdx j ↔ y ∈ l ∧ y.1 ≠ x.1 := by
 have hp := erase_perm hx
 have hn2 : ((x :: l.eraseIdx j).map (·.1)).Nodup := ((hp.map (·.1)).nodup_iff).2 hn
 simp only [List.map_cons, List.nodup_cons] at hn2
 rw [← hp.mem_iff, List.mem_cons]
 constructor
 ·intro hy
  exact ⟨.inr hy, fun e => hn2.1 (e ▸ List.mem_map.2 ⟨y, hy, rfl⟩)⟩
 ·rintro ⟨rfl | hy, hne⟩
  ·exact absurd rfl hne
  ·exact hy
theorem row_of {x : Raw} (hx : x ∈ l) (hn : (l.map (·.1)).Nodup) : ∃ j : Nat, l[j]? = some x ∧ atR l x.1 = (j : Int) := by
 obtain ⟨j, hj, rfl⟩ := List.getElem_of_mem hx
 refine ⟨j, List.getElem?_eq_getElem hj, atR_some (List.getElem?_eq_getElem hj) rfl fun y hy e => ?_⟩
 obtain ⟨i, hi, rfl⟩ := List.mem_take_iff_getElem.1 hy
 have hi2 : i < j := by omega
 have : (l.map (·.1))[i]'(by simp; omega) = (l.map (·.1))[j]'(by simpa using hj) := by simpa using e
 have := (List.getElem_inj hn).1 this
 omega
theorem cmap_filter (hn : (S.C.map (·.k)).Nodup) : cmap (S.C.filter fun c => decide (c.k ≠ p)) = setF (cmap S.C) p none := by
 funext q
 unfold setF
 by_cases e : q = p
 ·subst e
  rw [if_pos rfl]
  have : cget (S.C.filter fun c => decide (c.k ≠ q)) q = none := by
   unfold cget
   rw [List.find?_eq_none]
   intro x hx
   have := (List.mem_filter.1 hx).2
   simpa using this
  unfold cmap; rw [this]; rfl
 ·rw [if_neg e]
  have : cget (S.C.filter fun c => decide (c.k ≠ p)) q = cget S.C q := by
   unfold cget
   rw [List.find?_filter]
   congr 1
   funext x
   by_cases h : x.k = q
   ·subst h; simp [e]
   ·simp [h]
  unfold cmap; rw [this]
/-- What is taken away. -/
theorem FR.remove (h : FR base S l hf) (h0 : (removeL l p).2 = 0) (ht : TR E' (bareL (removeL l p).1)) (hop : ∀ x ∈ S.hs, x.1 ≠ p) (hm : MapF strV om' (setF (cmap S.C) p none)) :
  FR base { S with E := E', om := om', C := S.C.filter fun c => decide (c.k ≠ p) } (removeL l p).1 hf ∧ usedL (removeL l p).1 + (fileB l p).length = usedL l := by
 obtain ⟨hp0, hf0, hl'⟩ := remove_row h0
 obtain ⟨x, hx, rfl⟩ := findL_mem hf0 hp0
 obtain ⟨j, hj, hat⟩ := row_of hx h.names
 rw [hl', hat, Int.toNat_natCast] at ht ⊢
 have hmem : ∀ y, y ∈ l.eraseIdx j ↔ y ∈ l ∧ y.1 ≠ x.1 := fun y => mem_erase h.names hj
 have hus : usedL (l.eraseIdx j) + (fileB l x.1).length = usedL l := by
  have h1 := usedL_perm (erase_perm hj)
  rw [usedL_cons] at h1
  have h2 : (fileB l x.1).length = x.2.2.length := by
   unfold fileB fileD
   rw [find_nd h.names hx]
   simp only
   split
   ·rename_i hd; rw [h.dd _ hx hd]; rfl
   ·rfl
  omega
 refine ⟨⟨ht, ?_, ?_, ?_, ?_, ?_, by have := h.us; omega, h.hl, h.hh, ?_⟩, hus⟩
 ·show MapF strV om' (cmap (S.C.filter fun c => decide (c.k ≠ x.1)))
  rw [cmap_filter h.cn]; exact hm
 ·exact ((List.filter_sublist).map _).nodup h.cn
 ·intro c hc; exact h.ok c (List.mem_filter.1 hc).1
 ·intro q d
  rw [hmem, h.cl]
  constructor
  ·rintro ⟨⟨c, hc, h1, h2⟩, hne⟩
   exact ⟨c, List.mem_filter.2 ⟨hc, by simpa [h1] using hne⟩, h1, h2⟩
  ·rintro ⟨c, hc, h1, h2⟩
   obtain ⟨g1, g2⟩ := List.mem_filter.1 hc
   exact ⟨⟨c, g1, h1, h2⟩, by rw [← h1]; simpa using g2⟩
 ·intro z hz hd; exact h.dd z ((hmem z).1 hz).1 hd
 ·intro y hy hy0
  obtain ⟨d, hd⟩ := h.ho y hy hy0
  exact ⟨d, (hmem _).2 ⟨hd, hop y hy⟩⟩
/-- A new file. -/
theorem FR.put (h : FR base S l hf) (hnone : ∀ y ∈ l, y.1 ≠ p) (hb : c.k = p) (hd : c.d = []) (hOK : c.OK base) (ht : TR E' (bareL (withR l (p, false, [])))) (hm : MapF strV om' (setF (cmap S.C) p (some (ptr c.b)))) :
  FR base { S with E := E', om := om', C := S.C ++ [c] } (withR l (p, false, [])) hf ∧ usedL (withR l (p, false, [])) = usedL l := by
 have hus : usedL (withR l (p, false, [])) = usedL l := by rw [usedL_with]; simp
 have hno : ∀ x ∈ S.C, x.k ≠ p := fun x hx e => hnone _ (h.row hx) e
 refine ⟨⟨ht, ?_, ?_, ?_, ?_, ?_, by rw [hus]; exact h.us, h.hl, h.hh, ?_⟩, hus⟩
 ·have : cmap (S.C ++ [c]) = setF (cmap S.C) p (some (ptr c.b)) := by
   funext q
   unfold cmap cget setF
   rw [List.find?_append]
   by_cases e : q = p
   ·subst e
    have : S.C.find? (fun c => decide (c.k = q)) = none := List.find?_eq_none.2 fun x hx => by simpa using hno x hx
    rw [this, if_pos rfl]; simp [hb]
   ·rw [if_neg e]
    show ((S.C.find? (fun c => decide (c.k = q))).or _).map _ = (S.C.find? (fun c => decide (c.k = q))).map _
    cases S.C.find? (fun c => decide (c.k = q)) with
    | some x => rfl
    | none =>
     have : ¬ c.k = q := fun h => e (h.symm.trans hb)
     simp [this]
  show MapF strV om' (cmap (S.C ++ [c]))
  rw [this]; exact hm
 ·show ((S.C ++ [c]).map (·.k)).Nodup
  rw [List.map_append, List.nodup_append]
  refine ⟨h.cn, by simp, ?_⟩
  intro a ha b hb' e
  obtain ⟨x, hx, rfl⟩ := List.mem_map.1 ha
  simp only [List.map_cons, List.map_nil, List.mem_singleton] at hb'
  exact hno x hx (e.trans (hb'.trans hb))
 ·intro x hx
  rcases List.mem_append.1 hx with hx | hx
  ·exact h.ok x hx
  ·rw [List.mem_singleton.1 hx]; exact hOK
 ·intro q d
  rw [withR_mem, h.cl]
  constructor
  ·rintro (e | ⟨x, hx, h1, h2⟩)
   ·simp only [Prod.mk.injEq, true_and] at e
    exact ⟨c, by simp, hb.trans e.1.symm, hd.trans e.2.symm⟩
   ·exact ⟨x, List.mem_append_left _ hx, h1, h2⟩
  ·rintro ⟨x, hx, h1, h2⟩
   rcases List.mem_append.1 hx with hx | hx
   ·exact .inr ⟨x, hx, h1, h2⟩
   ·rw [List.mem_singleton.1 hx, hb] at h1
    rw [List.mem_singleton.1 hx, hd] at h2
    exact .inl (by rw [← h1, ← h2])
 ·intro z hz hd'
  rcases withR_mem.1 hz with rfl | hz
  ·rfl
  ·exact h.dd z hz hd'
 ·intro y hy hy0
  obtain ⟨d, hd⟩ := h.ho y hy hy0
  exact ⟨d, withR_mem.2 (.inr hd)⟩
/-- Has anybody this file open? -/
def rowsB (hs : List Hd) (p : List UInt8) : Bool := (List.range 8).any fun a => ((hs.drop (16 * a)).take 16).any fun h => decide (h.1 = p)
theorem rowsB_iff {hs : List Hd} (hl : hs.length = 128) : rowsB hs p = true ↔ ∃ h ∈ hs, h.1 = p := by
 unfold rowsB
 simp only [List.any_eq_true, List.mem_range, decide_eq_true_eq]
 constructor
 ·rintro ⟨a, _, h, hm, h1⟩
  exact ⟨h, List.mem_of_mem_drop (List.mem_of_mem_take hm), h1⟩
 ·rintro ⟨h, hm, h1⟩
  obtain ⟨j, hj, rfl⟩ := List.getElem_of_mem hm
  refine ⟨j / 16, by omega, hs[j], ?_, h1⟩
  refine List.mem_of_getElem? (i := j % 16) ?_
  rw [List.getElem?_take, if_pos (by omega), List.getElem?_drop, show 16 * (j / 16) + j % 16 = j by omega, List.getElem?_eq_getElem hj]
theorem openB_iff {hs : List Hd} (hl : hs.length = 128) (hp : p ≠ []) : openB (hAt hs) p = true ↔ ∃ h ∈ hs, h.1 = p := by
 unfold openB
 simp only [List.any_eq_true, List.mem_range]
 constructor
 ·rintro ⟨a, ha, i, hi, h⟩
  rw [hAt_at ha hi] at h
  cases hq : hs[16 * a + i]? with
  | none => rw [hq] at h; cases h
  | some x =>
   rw [hq] at h
   by_cases e : x.1 = []
   ·simp [e] at h
   ·simp only [e, if_false, decide_eq_true_eq] at h
    exact ⟨x, List.mem_of_getElem? hq, h⟩
 ·rintro ⟨h, hm, h1⟩
  obtain ⟨j, hj, rfl⟩ := List.getElem_of_mem hm
  refine ⟨j / 16, by omega, j % 16, by omega, ?_⟩
  have hq : hs[16 * (j / 16) + j % 16]? = some hs[j] := by rw [show 16 * (j / 16) + j % 16 = j by omega, List.getElem?_eq_getElem hj]
  rw [hAt_some (by omega) (by omega) hq (by rw [h1]; exact hp)]
  simpa using h1
theorem open_rows {hs : List Hd} (hl : hs.length = 128) (hp : p ≠ []) : rowsB hs p = openB (hAt hs) p := by
 rw [Bool.eq_iff_iff, rowsB_iff hl, openB_iff hl hp]
end
end Go.Proofs.YtigfbpbnohkokaaGreat

namespace Go.Proofs.YtigfbpbnohkokaaGreat
open Go Go.Fw Go.RowKit
set_option linter.unusedVariables false
set_option linter.unusedSimpArgs false

def removeS (l : List Raw) (hf : HF) (p : List UInt8) : St3 := if (removeL l p).2 = 0 then (if openB hf p = true then (badS 18, l, hf) else (badS 0, (removeL l p).1, hf)) else (badS (removeL l p).2, l, hf)
def renameS (l : List Raw) (hf : HF) (p q : List UInt8) : St3 := if (cleanP q).2 = 0 then (if (renameL l p (cleanP q).1).2 = 0 then (badS 0, (renameL l p (cleanP q).1).1, movH hf p (cleanP q).1) else (badS (renameL l p (cleanP q).1).2, l, hf)) else (badS (cleanP q).2, l, hf)
def cptr (C : List Con) (p : List UInt8) : Option Addr := (cget C p).map fun c => ⟨c.b, 0, none⟩
theorem cmap_getD (C : List Con) (p : List UInt8) : (cmap C p).getD (.pointer none) = .pointer (cptr C p) := by unfold cmap cptr; cases cget C p <;> rfl
theorem rem_root (l : List Raw) : (removeL l []).2 = 18 := by
 unfold removeL
 rw [findL_root, if_pos rfl, if_pos rfl]
section
variable {base : BaseF} {S : FSt} {l : List Raw} {hf : HF} {c : Con} {p : List UInt8} {E' : List Ent} {bf u : Nat} {bv : Value}
theorem filter_none (h : FR base S l hf) (hg : cget S.C p = none) : S.C.filter (fun c => decide (c.k ≠ p)) = S.C := by
 rw [List.filter_eq_self]
 intro x hx
 have : x.k ≠ p := fun e => by
  have := cget_of h.cn hx
  rw [e, hg] at this; cases this
 simpa using this
theorem FR.removeN (h : FR base S l hf) (h0 : (removeL l p).2 = 0) (ht : TR E' (bareL (removeL l p).1)) (hop : ∀ x ∈ S.hs, x.1 ≠ p) (hg : cget S.C p = none) :
  FR base { S with E := E' } (removeL l p).1 hf ∧ usedL (removeL l p).1 = usedL l := by
 have e1 : setF (cmap S.C) p none = cmap S.C := by
  funext q
  unfold setF
  split
  ·rename_i e; subst e; unfold cmap; rw [hg]; rfl
  ·rfl
 obtain ⟨h1, h2⟩ := h.remove (om' := S.om) h0 ht hop (by rw [e1]; exact h.mp)
 rw [filter_none h hg] at h1
 have h3 : fileB l p = [] := by
  unfold fileB fileD
  cases hx : l.find? (fun x => decide (x.1 = p)) with
  | none => rfl
  | some x =>
   simp only
   split
   ·rfl
   ·rename_i hd
    exfalso
    have hp := List.find?_some hx
    have hm := List.mem_of_find?_eq_some hx
    obtain ⟨a, b, d⟩ := x
    simp at hp hd
    subst hp
    rw [hd] at hm
    exact h.no hg d hm
 rw [h3] at h2
 exact ⟨h1, h2⟩
theorem cblks_sub (f : Con → Bool) : ∀ C : List Con, (cblks (C.filter f)).Sublist (cblks C)
 | [] => List.Sublist.refl _
 | c :: C => by
  rw [List.filter_cons]
  split
  ·exact List.Sublist.append (List.Sublist.refl _) (cblks_sub f C)
  ·exact (cblks_sub f C).trans (List.sublist_append_right _ _)
theorem fs_sub (f : Con → Bool) : (fsB bf bv u { S with C := S.C.filter f }).Sublist (fsB bf bv u S) :=
 List.Sublist.cons_cons _ (List.Sublist.cons_cons _ (List.Sublist.append (List.Sublist.refl _) (cblks_sub f S.C)))
theorem no_open (h : FR base S l hf) (hp : p ≠ []) (ho : openB hf p = false) : ∀ x ∈ S.hs, x.1 ≠ p := fun x hx e => by
 rw [h.hh] at ho
 have := (openB_iff h.hl hp).2 ⟨x, hx, e⟩
 rw [ho] at this; cases this
theorem yes_open (h : FR base S l hf) (hp : p ≠ []) (ho : openB hf p = true) : ∃ d, (p, false, d) ∈ l := by
 rw [h.hh] at ho
 obtain ⟨x, hx, rfl⟩ := (openB_iff h.hl hp).1 ho
 exact h.ho x hx hp
theorem low_idx {hs : List Hd} {a : Nat} (hl : hs.length = 128) (ha : a < 8) : idxI ((hs.drop (16 * a)).take 16) (fun h => decide (h.1 = [])) = match lowH (hAt hs) (a : Int) with | some i => (i : Int) | none => -1 := by
 have hrl : ((hs.drop (16 * a)).take 16).length = 16 := by rw [List.length_take, List.length_drop]; omega
 have hat : ∀ i, i < 16 → ∃ x, ((hs.drop (16 * a)).take 16)[i]? = some x ∧ hs[16 * a + i]? = some x ∧ ((hAt hs (a : Int) ((i : Int) + 1)).isNone = decide (x.1 = [])) := by
  intro i hi
  obtain ⟨x, hx⟩ := get_lt (l := (hs.drop (16 * a)).take 16) (q := i) (by omega)
  have hx2 : hs[16 * a + i]? = some x := by rw [List.getElem?_take, if_pos hi, List.getElem?_drop] at hx; exact hx
  refine ⟨x, hx, hx2, ?_⟩
  rw [hAt_at ha hi, hx2]
  by_cases e : x.1 = [] <;> simp [e]
 unfold lowH
 cases hf : (List.range 16).find? (fun i : Nat => (hAt hs (a : Int) ((i : Int) + 1)).isNone) with
 | none =>
  show idxI _ _ = -1
  refine idxI_no fun y hy => ?_
  obtain ⟨i, hi, rfl⟩ := List.getElem_of_mem hy
  obtain ⟨x, h1, _, h3⟩ := hat i (by omega)
  have := List.find?_eq_none.1 hf i (by simp; omega)
  rw [List.getElem?_eq_getElem hi] at h1
  cases h1
  rw [h3] at this
  simpa using this
 | some i =>
  show idxI _ _ = (i : Int)
  have h0 := List.find?_some hf
  have hlo := (List.find?_range_eq_some.1 hf).2.2
  obtain ⟨x, h1, _, h3⟩ := hat i (List.mem_range.1 (List.mem_of_find?_eq_some hf))
  refine idxI_at h1 (fun y hy => ?_) (by rw [← h3]; exact h0)
  obtain ⟨j, hj, rfl⟩ := List.mem_take_iff_getElem.1 hy
  obtain ⟨x2, g1, _, g3⟩ := hat j (by omega)
  rw [List.getElem?_eq_getElem (by omega)] at g1
  cases g1
  rw [← g3]
  have := hlo j (by omega)
  simpa using this
end
end Go.Proofs.YtigfbpbnohkokaaGreat

namespace Go.Proofs.YtigfbpbnohkokaaGreat
open Go Go.Fw Go.RowKit Go.Proofs
set_option linter.unusedVariables false
set_option linter.unusedSimpArgs false
set_option maxRecDepth 100000
set_option maxHeartbeats 4000000

-- (*valise/overlay.FS).mkdir
theorem mkdirH_c {w00 w0 : World} {bf : Nat} {bv dv : Value} {S : FSt} {base : BaseF} {Lb L : List (Nat × Obj)} {l : List Raw} {hf : HF} {o : OpS} {p : List UInt8} (M : Sep w00 (fsB bf bv (usedL l) S ++ (Lb ++ L)) w0) (hR : FR base S l hf)  (hdv : ∃ pd cd, dv = .slice pd o.d.length cd) : Ret Tryz.prog 72 #[ptr bf, strV p, .agg (opC o dv).toArray] w0 (PostS base bf bv w00 Lb L (badS (mkdirL l p).2, (mkdirL l p).1, hf)) := by
 obtain ⟨pd, cd, rfl⟩ := hdv
 refine Ret.of_W Tryz.func72 rfl Tryz.ntmps72 rfl ?_
 refine go 1 ?_
 intro _ _ M
 refine go 1 ?_
 intro _ _ M
 refine go 0 ?_
 refine x_ld rfl rfl rfl Tryz.underlying83 rfl rfl (cell_of (fs_at M (fun y (hy : y ∈ fsB bf bv (usedL l) S) => by simp [hy])) rfl) ?_
 refine go 0 ?_
 refine x_call rfl rfl rfl rfl rfl en102 (mkdir_r (St.tri (X := [_, _]) M) hR.tr) ?_
 rintro r_ w1 ⟨E1, rfl, hT1, M⟩
 rw [bare_mkdir] at hT1 ⊢
 obtain ⟨hR1, hU1⟩ := hR.mkdir hT1
 have M := St.tro (X := [_, _]) M
 rw [← hU1] at M
 refine ⟨trivial, ?_⟩
 refine x_call rfl rfl rfl rfl rfl en40 (fail_c) ?_
 rintro r_ wcall2 ⟨rfl, hncall2⟩
 have M := M.new hncall2
 refine ⟨trivial, ?_⟩
 refine go 1 ?_
 intro _ M
 refine go 1 ?_
 exact post_bad hR1 M.tail.tail rfl

-- (*valise/overlay.FS).list
theorem listH_c {w00 w0 : World} {bf : Nat} {bv dv : Value} {S : FSt} {base : BaseF} {Lb L : List (Nat × Obj)} {l : List Raw} {hf : HF} {o : OpS} {p : List UInt8} (M : Sep w00 (fsB bf bv (usedL l) S ++ (Lb ++ L)) w0) (hR : FR base S l hf)  (hdv : ∃ pd cd, dv = .slice pd o.d.length cd) : Ret Tryz.prog 75 #[ptr bf, strV p, .agg (opC o dv).toArray] w0 (PostS base bf bv w00 Lb L (⟨(listL l p).2, 0, 0, [], (listL l p).1⟩, l, hf)) := by
 obtain ⟨pd, cd, rfl⟩ := hdv
 refine Ret.of_W Tryz.func75 rfl Tryz.ntmps75 rfl ?_
 refine go 1 ?_
 intro _ _ M
 refine go 1 ?_
 intro _ _ M
 refine go 0 ?_
 refine x_ld rfl rfl rfl Tryz.underlying83 rfl rfl (cell_of (fs_at M (fun y (hy : y ∈ fsB bf bv (usedL l) S) => by simp [hy])) rfl) ?_
 refine go 0 ?_
 refine x_call rfl rfl rfl rfl rfl en107 (list_r (St.tri (X := [_, _]) M) hR.tr) ?_
 rintro r_ w1 ⟨v1, L1, rfl, hs1, M⟩
 rw [bare_list] at hs1 ⊢
 have M := St.tro2 (X := [_, _]) M
 obtain ⟨p1, c1, rfl, _⟩ := hs1.shape2 (by decide)
 refine ⟨trivial, ?_⟩
 refine go 2 ?_
 intro _ M
 refine go 1 ?_
 exact ⟨S, L1, ⟨_, _, [], L1, rfl, rfl, OwL.nil, hs1⟩, hR, M.tail.tail⟩

-- (*valise/overlay.FS).busy
theorem busy_c {w0 : World} {bf u : Nat} {bv : Value} {S : FSt} {p : List UInt8} (hb : w0.heap[bf]? = some (.cells (fsC bv u S).toArray 90 (0, 0))) (hl : S.hs.length = 128) : Ret Tryz.prog 103 #[ptr bf, strV p] w0 fun r w' => r = .bool (rowsB S.hs p) ∧ New w0 w' := by
 have M : Sep w0 [] w0 := St.nil w0
 refine Ret.of_W Tryz.func103 rfl Tryz.ntmps103 rfl ?_
 refine go 1 ?_
 intro bbx1 _ M
 refine go 0 ?_
 refine W.loop (σ := Nat) (fun q => [(0, _), (3, _), (6, .int .i64 ((q : Nat) : Int))]) (fun q w => q ≤ 8 ∧ (∀ a < q, (((S.hs.drop (16 * a)).take 16).any fun h => decide (h.1 = p)) = false) ∧ Sep w0 [(bbx1, .cells [strV p].toArray 9 (0, 0))] w) (fun q => 8 - q) 0 ⟨rfl, rfl, rfl, trivial⟩ ⟨by omega, fun a ha => by omega, M⟩ ?_
 rintro q w ⟨hq8, hno, M⟩
 refine cnd 1 ?_ ?_
 ·intro hco1
  refine go 0 ?_
  refine x_call rfl rfl rfl rfl rfl en49 (handles_c (by omega)) ?_
  rintro r_ w_ ⟨rfl, rfl⟩
  have hrl : ((S.hs.drop (16 * q)).take 16).length = 16 := by rw [List.length_take, List.length_drop]; omega
  have hsl := row_sl (off := 0 + 3 + q * 32) hl (by omega : q < 8) (New.keep M.frm hb) (by omega)
  have hcc := containsH_c (l := ((S.hs.drop (16 * q)).take 16)) (g := 127) (cp := #[ptr bbx1]) (f := fun h => decide (h.1 = p)) (by rw [hrl]; exact hsl) (by omega) en127 (fun x _ w2 hn2 => busy1_c (New.keep hn2 (M.at_ 0 rfl)))
  rw [hrl] at hcc
  refine ⟨trivial, ?_⟩
  refine go 1 ?_
  refine x_call rfl rfl rfl rfl rfl en126 hcc ?_
  rintro r_ w2 ⟨rfl, hn2⟩
  have M := M.new hn2
  refine ⟨trivial, ?_⟩
  refine cnd 0 ?_ ?_
  ·intro hco2
   refine go 1 ?_
   exact ⟨by rw [show rowsB S.hs p = true from List.any_eq_true.2 ⟨q, List.mem_range.2 (by omega), hco2⟩], M.frm⟩
  ·intro hco2
   refine go 0 ?_
   refine x_add _ rfl rfl rfl rfl rfl (wadd (by omega) (by omega)) ?_
   refine go 0 ?_
   exact At.back (q + 1) ⟨rfl, rfl, rfl, trivial⟩ ⟨by omega, fun a ha => by rcases Nat.lt_succ_iff_lt_or_eq.1 ha with h | h; exact hno a h; rw [h]; exact hco2, M⟩ (by first | omega | (simp only; omega) | (simp; done) | (simp; omega))
 ·intro hco1
  refine go 1 ?_
  exact ⟨by rw [show rowsB S.hs p = false from List.any_eq_false.2 fun a ha => by rw [hno a (by have := List.mem_range.1 ha; omega)]; simp], M.frm⟩

-- (*valise/overlay.FS).remove
theorem removeH_c {w00 w0 : World} {bf : Nat} {bv dv : Value} {S : FSt} {base : BaseF} {Lb L : List (Nat × Obj)} {l : List Raw} {hf : HF} {o : OpS} {p : List UInt8} (M : Sep w00 (fsB bf bv (usedL l) S ++ (Lb ++ L)) w0) (hR : FR base S l hf)  (hdv : ∃ pd cd, dv = .slice pd o.d.length cd) : Ret Tryz.prog 73 #[ptr bf, strV p, .agg (opC o dv).toArray] w0 (PostS base bf bv w00 Lb L (removeS l hf p)) := by
 obtain ⟨pd, cd, rfl⟩ := hdv
 refine Ret.of_W Tryz.func73 rfl Tryz.ntmps73 rfl ?_
 refine go 1 ?_
 intro bbx1 _ M
 refine go 1 ?_
 intro bal1 _ M
 refine spl 1 11 ?_ ?_
 ·intro hsp1
  refine go 0 ?_
  refine x_call rfl rfl rfl rfl rfl en103 (busy_c (fs_at M (fun y (hy : y ∈ fsB bf bv (usedL l) S) => by simp [hy])) hR.hl) ?_
  rintro r_ w1 ⟨rfl, hn1⟩
  have M := M.new hn1
  rw [open_rows hR.hl hsp1, ← hR.hh]
  refine ⟨trivial, ?_⟩
  refine cnd 0 ?_ ?_
  ·intro hco1
   refine go 0 ?_
   refine x_call rfl rfl rfl rfl rfl en40 (fail_c) ?_
   rintro r_ wcall2 ⟨rfl, hncall2⟩
   have M := M.new hncall2
   refine ⟨trivial, ?_⟩
   refine go 1 ?_
   intro _ M
   refine go 1 ?_
   obtain ⟨d, hm⟩ := yes_open hR hsp1 hco1
   exact post_bad hR M.tail.tail (by unfold removeS; rw [if_pos (hR.gone hm), if_pos hco1])
  ·intro hco1
   have hno := no_open hR hsp1 hco1
   refine go 0 ?_
   refine x_ld rfl rfl rfl Tryz.underlying83 rfl rfl (cell_of (fs_at M (fun y (hy : y ∈ fsB bf bv (usedL l) S) => by simp [hy])) rfl) ?_
   refine go 0 ?_
   refine x_call rfl rfl rfl rfl rfl en104 (remove_r (St.tri (X := [_, _]) M) hR.tr) ?_
   rintro r_ w3 ⟨E3, rfl, hT3, M⟩
   rw [bare_remove] at hT3 ⊢
   have M := St.tro (X := [_, _]) M
   refine ⟨trivial, ?_⟩
   refine go 0 ?_
   refine x_ld rfl rfl rfl Tryz.underlying84 rfl rfl (cell_of (fs_at M (fun y (hy : y ∈ fsB bf bv (usedL l) { S with E := E3 }) => by simp [hy])) rfl) ?_
   refine go 0 ?_
   refine x_lk1 (enc := strV) p rfl rfl rfl (strKey Tryz.underlying9) Tryz.underlying84 ze102 rfl rfl ⟨S.om, cmap S.C, M.get (by simp [fsB]), hR.mp, rfl⟩ ?_
   rw [cmap_getD]
   refine spl 1 31 ?_ ?_
   ·intro hsp2
    refine cnd 1 ?_ ?_
    ·intro hco2
     obtain ⟨c, hg⟩ : ∃ c, cget S.C p = some c := by
      cases hg : cget S.C p with
      | none => unfold cptr at hco2; rw [hg] at hco2; simp at hco2
      | some c => exact ⟨c, rfl⟩
     obtain ⟨hc, hck⟩ := cget_mem hg
     have hOKc := hR.ok c hc
     have hus := hR.us
     have hrow := hR.row hc
     have hcu := (hR.le hrow).2
     have hcl := hOKc.le
     rw [hck] at hrow
     have hfb := hR.bytes hrow
     have hcp : cptr S.C p = some ⟨c.b, 0, none⟩ := by unfold cptr; rw [hg]; rfl
     rw [hcp]
     refine go 0 ?_
     refine W.regD (by kernel_rfl) #[0, 1, 3, 7, 0, 16, 63, 127, 255, 511] [(0, false), (1, false), (2, false), (3, false), (4, false), (5, true), (6, false), (7, false), (8, false), (9, true)] (by kernel_rfl) ?_
     intro K wD1 hK hwD1
     have M := M.drew hwD1
     refine go 0 ?_
     refine x_ld rfl rfl rfl Tryz.underlying3 rfl rfl (cell_of (fs_at M (fun y (hy : y ∈ fsB bf bv (usedL l) { S with E := E3 }) => by simp [hy])) (fsC_used hR.hl)) ?_
     refine go 0 ?_
     refine x_call rfl rfl rfl rfl rfl en48 (length_c (con_at (S := { S with E := E3 }) M (fun y (hy : y ∈ fsB bf bv (usedL l) { S with E := E3 }) => by simp [hy]) hc) hOKc) ?_
     rintro r_ w_ ⟨rfl, rfl⟩
     refine ⟨⟨(by first | exact .inr (cell_of (by first | exact M.at_ 0 rfl | exact M.at_ 1 rfl | exact M.at_ 2 rfl | exact M.at_ 3 rfl | exact M.at_ 4 rfl | exact M.at_ 5 rfl | exact M.at_ 6 rfl | exact M.at_ 7 rfl) rfl) | exact .inr (cell_of (fs_at M (fun y (hy : y ∈ fsB bf bv (usedL l) { S with E := E3 }) => by simp [hy])) (fsC_used hR.hl))), trivial⟩, ?_⟩
     refine x_sub (((usedL l - c.d.length) : Nat) : Int) rfl rfl rfl rfl rfl (by rw [wsub (by omega) (by omega)]; omega) ?_
     refine go 0 ?_
     refine x_st [_] (fsC bv (usedL l - c.d.length) { S with E := E3 }) rfl rfl rfl sz3 rfl rfl rfl rfl (fs_at M (fun y (hy : y ∈ fsB bf bv (usedL l) { S with E := E3 }) => by simp [hy])) rfl (by rw [fsC_len (S := { S with E := E3 }) hR.hl]; rfl) (fsC_use (S := { S with E := E3 }) hR.hl) ?_
     intro wst2 hwst2
     have M : Sep w00 ((bal1, _) :: (bbx1, _) :: (fsB bf bv (usedL l - c.d.length) { S with E := E3 } ++ (Lb ++ L))) wst2 := M.put 2 rfl hwst2
     refine pnd ?_
     refine go 0 ?_
     refine x_ld rfl rfl rfl Tryz.underlying84 rfl rfl (cell_of (fs_at M (fun y (hy : y ∈ fsB bf bv (usedL l - c.d.length) { S with E := E3 }) => by simp [hy])) rfl) ?_
     refine go 0 ?_
     refine x_del (enc := strV) p rfl rfl rfl (strKey Tryz.underlying9) Tryz.underlying84 rfl rfl rfl (M.get (by simp [fsB])) hR.mp ?_
     intro ode1 wde1 hmde1 hwde1
     have M : Sep w00 ((bal1, _) :: (bbx1, _) :: (fsB bf bv (usedL l - c.d.length) { S with E := E3, om := ode1 } ++ (Lb ++ L))) wde1 := M.put 3 rfl hwde1
     obtain ⟨hR4, hU4⟩ := hR.remove hsp2 hT3 hno hmde1
     rw [hfb] at hU4
     have hu4 : (usedL l - c.d.length) = usedL (removeL l p).1 := by omega
     rw [hu4] at M
     refine ⟨trivial, ?_⟩
     refine go 0 ?_
     refine x_call rfl rfl rfl rfl rfl en40 (fail_c) ?_
     rintro r_ wcall5 ⟨rfl, hncall5⟩
     have M := M.new hncall5
     refine ⟨trivial, ?_⟩
     refine go 1 ?_
     intro _ M
     refine go 1 ?_
     exact post_bad hR4 (M.tail.tail.sub (List.Sublist.append (fs_sub (S := { S with E := E3, om := ode1 }) _) (List.Sublist.refl _))) (by unfold removeS; rw [if_pos hsp2, if_neg (by rw [hco1]; simp), hsp2])
    ·intro hco2
     have hg : cget S.C p = none := by
      cases hg : cget S.C p with
      | none => rfl
      | some c => unfold cptr at hco2; rw [hg] at hco2; simp at hco2
     obtain ⟨hR4, hU4⟩ := hR.removeN hsp2 hT3 hno hg
     rw [← hU4] at M
     refine go 0 ?_
     refine x_call rfl rfl rfl rfl rfl en40 (fail_c) ?_
     rintro r_ wcall6 ⟨rfl, hncall6⟩
     have M := M.new hncall6
     refine ⟨trivial, ?_⟩
     refine go 1 ?_
     intro _ M
     refine go 1 ?_
     exact post_bad hR4 M.tail.tail (by unfold removeS; rw [if_pos hsp2, if_neg (by rw [hco1]; simp), hsp2])
   ·intro hsp2
    have hR4 : FR base { S with E := E3 } l hf := hR.tree (by rw [removeL_bad hsp2] at hT3; exact hT3) (fun _ _ => Iff.rfl) hR.dd hR.us
    refine go 0 ?_
    refine x_call rfl rfl rfl rfl rfl en40 (fail_c) ?_
    rintro r_ wcall7 ⟨rfl, hncall7⟩
    have M := M.new hncall7
    refine ⟨trivial, ?_⟩
    refine go 1 ?_
    intro _ M
    refine go 1 ?_
    exact post_bad hR4 M.tail.tail (by unfold removeS; rw [if_neg hsp2])
 ·intro hsp1
  have hn0 : ¬ (removeL l p).2 = 0 := by rw [hsp1, rem_root]; decide
  refine go 0 ?_
  refine x_ld rfl rfl rfl Tryz.underlying83 rfl rfl (cell_of (fs_at M (fun y (hy : y ∈ fsB bf bv (usedL l) S) => by simp [hy])) rfl) ?_
  refine go 0 ?_
  refine x_call rfl rfl rfl rfl rfl en104 (remove_r (St.tri (X := [_, _]) M) hR.tr) ?_
  rintro r_ w3 ⟨E3, rfl, hT3, M⟩
  rw [bare_remove] at hT3 ⊢
  have M := St.tro (X := [_, _]) M
  have hR4 : FR base { S with E := E3 } l hf := hR.tree (by rw [removeL_bad hn0] at hT3; exact hT3) (fun _ _ => Iff.rfl) hR.dd hR.us
  refine ⟨trivial, ?_⟩
  refine go 0 ?_
  refine x_ld rfl rfl rfl Tryz.underlying84 rfl rfl (cell_of (fs_at M (fun y (hy : y ∈ fsB bf bv (usedL l) { S with E := E3 }) => by simp [hy])) rfl) ?_
  refine go 0 ?_
  refine x_lk1 (enc := strV) p rfl rfl rfl (strKey Tryz.underlying9) Tryz.underlying84 ze102 rfl rfl ⟨S.om, cmap S.C, M.get (by simp [fsB]), hR.mp, rfl⟩ ?_
  rw [cmap_getD]
  refine go 0 ?_
  refine x_eqi false rfl rfl rfl rfl rfl (beq_eq_false_iff_ne.2 hn0) ?_
  refine go 0 ?_
  refine x_call rfl rfl rfl rfl rfl en40 (fail_c) ?_
  rintro r_ wcall9 ⟨rfl, hncall9⟩
  have M := M.new hncall9
  refine ⟨trivial, ?_⟩
  refine go 1 ?_
  intro _ M
  refine go 1 ?_
  exact post_bad hR4 M.tail.tail (by unfold removeS; rw [if_neg hn0])

end Go.Proofs.YtigfbpbnohkokaaGreat

namespace Go.Proofs.YtigfbpbnohkokaaGreat
open Go Go.Fw Go.RowKit
set_option linter.unusedVariables false
set_option linter.unusedSimpArgs false

def lowI (hf : HF) (who : Int) : Int := match lowH hf who with | some i => (i : Int) | none => -1
theorem low_idx' {hs : List Hd} {a : Nat} (hl : hs.length = 128) (ha : a < 8) : idxI ((hs.drop (16 * a)).take 16) (fun h => decide (h.1 = [])) = lowI (hAt hs) (a : Int) := by rw [low_idx hl ha]; rfl
theorem low_no {hf : HF} {who : Int} (h : lowI hf who < 0) : lowH hf who = none := by
 unfold lowI at h
 cases e : lowH hf who with
 | none => rfl
 | some i => rw [e] at h; simp only at h; omega
theorem low_yes {hf : HF} {who : Int} (h : ¬ lowI hf who < 0) : ∃ i : Nat, i < 16 ∧ lowH hf who = some i ∧ lowI hf who = (i : Int) := by
 unfold lowI at h ⊢
 cases e : lowH hf who with
 | none => rw [e] at h; exact absurd (by decide) h
 | some i =>
  unfold lowH at e
  exact ⟨i, List.mem_range.1 (List.mem_of_find?_eq_some e), rfl, rfl⟩
theorem findF_bad {l : List Raw} : ∀ (r pre : NP) (f : Raw), (findF l pre r f).2 ≠ 0 → (findF l pre r f).1 = fileZ
 | [], _, _, h => absurd rfl h
 | n :: r, pre, f, h => by
  unfold findF at h ⊢
  split
  ·rename_i hd
   rw [if_pos hd] at h
   cases hx : l.find? (fun x => decide (x.1 = joinS (pre ++ [n]))) with
   | none => rfl
   | some x =>
    rw [hx] at h
    exact findF_bad r _ x h
  ·rfl
theorem findL_bad {l : List Raw} {p : List UInt8} (h : (findL l p).2 ≠ 0) : (findL l p).1 = fileZ := by
 unfold findL at h ⊢
 split
 ·rename_i h1; rw [if_pos h1] at h; exact findF_bad _ _ _ h
 ·rfl
section
variable {base : BaseF} {S : FSt} {l : List Raw} {hf : HF} {c : Con} {p : List UInt8}
theorem FR.found (h : FR base S l hf) {z : Raw} (hz : z ∈ l) : findL l z.1 = (z, 0) := by
 have h1 := h.tr.find_row (z := bareR z) (List.mem_map.2 ⟨z, hz, rfl⟩)
 have h2 : (findL l z.1).2 = 0 := by
  have := congrArg (fun x => x.2) h1
  rw [show (bareR z).1 = z.1 from rfl, bare_findL] at this
  exact this
 by_cases h0 : z.1 = []
 ·have := (h.tr.row (z := bareR z) (List.mem_map.2 ⟨z, hz, rfl⟩)).2.2.2
  exact absurd h0 this
 ·have h3 : (bareR (findL l z.1).1).1 = z.1 := by
   have := congrArg (fun x => x.1.1) h1
   rw [show (bareR z).1 = z.1 from rfl, bare_findL] at this
   exact this
  obtain ⟨w, hw⟩ : ∃ w, (findL l z.1).1 = w := ⟨_, rfl⟩
  have hmem : (findL l z.1).1 ∈ l := by
   unfold findL at h2 ⊢
   split
   ·rename_i hs
    rw [if_pos hs] at h2
    obtain ⟨n, r, hnr⟩ : ∃ n r, splitN z.1 = n :: r := by
     cases hs' : splitN z.1 with
     | nil => exact absurd ((sN_nil hs).1 hs') h0
     | cons n r => exact ⟨n, r, rfl⟩
    rw [hnr] at h2 ⊢
    have key : ∀ (r : NP) (n : List UInt8) (pre : NP) (f : Raw), (findF l pre (n :: r) f).2 = 0 → (findF l pre (n :: r) f).1 ∈ l := by
     intro r
     induction r with
     | nil =>
      intro n pre f h
      unfold findF at h ⊢
      split
      ·rename_i hd
       rw [if_pos hd] at h
       cases hx : l.find? (fun x => decide (x.1 = joinS (pre ++ [n]))) with
       | none => rw [hx] at h; cases h
       | some x => exact List.mem_of_find?_eq_some hx
      ·rename_i hd; rw [if_neg hd] at h; cases h
     | cons m r ih =>
      intro n pre f h
      unfold findF at h ⊢
      split
      ·rename_i hd
       rw [if_pos hd] at h
       cases hx : l.find? (fun x => decide (x.1 = joinS (pre ++ [n]))) with
       | none => rw [hx] at h; cases h
       | some x => rw [hx] at h; exact ih m _ x h
      ·rename_i hd; rw [if_neg hd] at h; cases h
    exact key r n [] _ h2
   ·rename_i hs; rw [if_neg hs] at h2; cases h2
  have := names_inj h.names hmem hz h3
  exact Prod.ext this h2
theorem FR.absent (h : FR base S l hf) (h9 : (findL l p).2 = 9) : ∀ y ∈ l, y.1 ≠ p := fun y hy e => by
 rw [← e, h.found hy] at h9; cases h9
theorem put_new {b : List UInt8} (hn : ∀ y ∈ l, y.1 ≠ p) (h0 : (putL l p b).2 = 0) : (putL l p b).1 = withR l (p, false, b) := by
 have hf : l.find? (fun x => decide (x.1 = p)) = none := List.find?_eq_none.2 fun y hy => by simpa using hn y hy
 unfold putL at h0 ⊢
 rw [hf] at h0 ⊢
 split
 ·rename_i h1
  rw [if_pos h1] at h0
  simp only at h0 ⊢
  split
  ·rename_i h2; rw [if_pos h2] at h0; cases h0
  ·rename_i h2
   rw [if_neg h2] at h0
   split
   ·rename_i h3; rw [if_pos h3] at h0; cases h0
   ·rfl
 ·rename_i h1; rw [if_neg h1] at h0; exact absurd h0 h1
theorem FR.isfile (h : FR base S l hf) (h0 : (findL l p).2 = 0) (hd : (findL l p).1.2.1 = false) : ∃ d, (p, false, d) ∈ l ∧ p ≠ [] := by
 have hp : p ≠ [] := fun e => by rw [e, findL_root] at hd; cases hd
 obtain ⟨x, hx, rfl⟩ := findL_mem h0 hp
 rw [h.found hx] at hd
 obtain ⟨a, b, d⟩ := x
 simp only at hd
 subst hd
 exact ⟨d, hx, hp⟩
end
section
variable {S0 : Nat → Prop} {w0 w : World} {x y z : Nat × Obj} {F B L L6 : List (Nat × Obj)} {bf u b : Nat} {bv : Value} {S : FSt} {c : Con} {o : Obj}
theorem St.drop3 (h : St S0 w0 (x :: y :: z :: (F ++ (B ++ (L ++ L6)))) w) : St S0 w0 (F ++ (B ++ L)) w := by
 have h := h.tail.tail.tail
 exact h.sub (List.Sublist.append (List.Sublist.refl _) (List.Sublist.append (List.Sublist.refl _) (List.sublist_append_left _ _)))
theorem open_blk (h : St S0 w0 ((b, o) :: x :: y :: z :: (fsB bf bv u S ++ (B ++ (L ++ L6)))) w) (hc : c.hd = (b, o)) (hD : c.D = []) : St S0 w0 (fsB bf bv u { S with C := S.C ++ [c] } ++ (B ++ L)) w := by
 have h : St S0 w0 (x :: y :: z :: (fsB bf bv u { S with C := S.C ++ [c] } ++ (B ++ (L ++ L6)))) w := h.perm (perm_c fun p => by
  unfold fsB
  have e : fsC bv u { S with C := S.C ++ [c] } = fsC bv u S := rfl
  simp only [e, cblks_app, cblks_cons, Con.blks, hc, hD, List.countP_append, List.countP_cons, List.countP_nil]
  simp only [cblks, List.flatMap_nil, List.countP_nil]
  omega)
 exact St.drop3 h
end
end Go.Proofs.YtigfbpbnohkokaaGreat

namespace Go.Proofs.YtigfbpbnohkokaaGreat
open Go Go.Fw Go.RowKit Go.Proofs
set_option linter.unusedVariables false
set_option linter.unusedSimpArgs false
set_option maxRecDepth 100000
set_option maxHeartbeats 4000000

-- (*valise/overlay.FS).doOpen
theorem open_c {w00 w0 : World} {bf : Nat} {bv dv : Value} {S : FSt} {base : BaseF} {Lb L : List (Nat × Obj)} {l : List Raw} {hf : HF} {o : OpS} {a : Nat} (M : Sep w00 (fsB bf bv (usedL l) S ++ (Lb ++ L)) w0) (hR : FR base S l hf) (ha : a < 8) (hdv : ∃ pd cd, dv = .slice pd o.d.length cd) : Ret Tryz.prog 41 #[ptr bf, .int .i64 (a : Int), .agg (opC o dv).toArray] w0 (PostS base bf bv w00 Lb L (openS l hf (a : Int) o)) := by
 obtain ⟨pd, cd, rfl⟩ := hdv
 refine Ret.of_W Tryz.func41 rfl Tryz.ntmps41 rfl ?_
 refine go 1 ?_
 intro bbx1 _ M
 refine go 1 ?_
 intro bal1 _ M
 refine go 0 ?_
 refine x_call rfl rfl rfl rfl rfl en49 (handles_c ha) ?_
 rintro r_ w_ ⟨rfl, rfl⟩
 have hrl : ((S.hs.drop (16 * a)).take 16).length = 16 := by rw [List.length_take, List.length_drop, hR.hl]; omega
 have hsl := row_sl (off := 0 + 3 + a * 32) hR.hl ha (fs_at M (fun y (hy : y ∈ fsB bf bv (usedL l) S) => by simp [hy])) (by omega)
 have hcc := indexH_c (l := ((S.hs.drop (16 * a)).take 16)) (g := 65) (cp := #[]) (f := fun h => decide (h.1 = [])) (by rw [hrl]; exact hsl) (by omega) en65 (fun x _ w2 hn2 => open1_c)
 rw [hrl, low_idx' hR.hl ha, ← hR.hh] at hcc
 refine ⟨trivial, ?_⟩
 refine go 0 ?_
 refine x_call rfl rfl rfl rfl rfl en64 hcc ?_
 rintro r_ w2 ⟨rfl, hn2⟩
 have M := M.new hn2
 refine ⟨trivial, ?_⟩
 refine cnd 1 ?_ ?_
 ·intro hco1
  have hlow := low_no hco1
  refine go 0 ?_
  refine x_call rfl rfl rfl rfl rfl en40 (fail_c) ?_
  rintro r_ wcall3 ⟨rfl, hncall3⟩
  have M := M.new hncall3
  refine ⟨trivial, ?_⟩
  refine go 1 ?_
  intro _ M
  refine go 1 ?_
  exact post_bad hR M.tail.tail (by unfold openS; rw [hlow])
 ·intro hco1
  obtain ⟨i, hi, hlow, hli⟩ := low_yes hco1
  rw [hli]
  obtain ⟨hx, hq⟩ := get_lt (l := S.hs) (q := 16 * a + i) (by rw [hR.hl]; omega)
  refine go 1 ?_
  refine x_call rfl rfl rfl rfl rfl en45 (clean_c) ?_
  rintro r wcall4 ⟨rfl, hncall4⟩
  have M := M.new hncall4
  refine ⟨trivial, ?_⟩
  refine cnd 1 ?_ ?_
  ·intro hco2
   refine go 0 ?_
   refine x_call rfl rfl rfl rfl rfl en40 (fail_c) ?_
   rintro r_ wcall5 ⟨rfl, hncall5⟩
   have M := M.new hncall5
   refine ⟨trivial, ?_⟩
   refine go 1 ?_
   intro _ M
   refine go 1 ?_
   exact post_bad hR M.tail.tail (by unfold openS; rw [hlow]; simp only; rw [if_neg hco2])
  ·intro hco2
   refine go 0 ?_
   refine x_ld rfl rfl rfl Tryz.underlying83 rfl rfl (cell_of (fs_at M (fun y (hy : y ∈ fsB bf bv (usedL l) S) => by simp [hy])) rfl) ?_
   refine go 0 ?_
   refine x_call rfl rfl rfl rfl rfl en66 (find_r (p := (cleanP o.p).1) (St.tri (X := [_, _]) M) hR.tr) ?_
   rintro r_ w6 ⟨dv6, L6, rfl, hb6, M⟩
   rw [bare_findL] at hb6 ⊢
   have M := St.tro2 (X := [_, _]) M
   obtain ⟨p6, c6, rfl⟩ := hb6.shape
   refine ⟨trivial, ?_⟩
   refine go 1 ?_
   intro bal2 _ M
   refine go 1 ?_
   intro _ M
   refine spl 1 41 ?_ ?_
   ·intro hsp1
    refine cnd 1 ?_ ?_
    ·intro hco3
     refine go 0 ?_
     refine x_ld rfl rfl rfl Tryz.underlying83 rfl rfl (cell_of (fs_at M (fun y (hy : y ∈ fsB bf bv (usedL l) S) => by simp [hy])) rfl) ?_
     refine go 0 ?_
     refine x_call rfl rfl rfl rfl rfl en67 (put_r (p := (cleanP o.p).1) (b := []) (St.tri (X := [_, _, _]) M) hR.tr (fun _ _ _ _ => .inr (.inl ⟨rfl, rfl, rfl⟩))) ?_
     rintro r_ w7 ⟨E7, rfl, hT7, M⟩
     rw [bare_put l _ [] (by simp)] at hT7 ⊢
     have M := St.tro (X := [_, _, _]) M
     refine ⟨trivial, ?_⟩
     refine cnd 1 ?_ ?_
     ·intro hco4
      have habs := hR.absent hsp1
      rw [put_new habs hco4] at hT7
      refine go 0 ?_
      refine x_ld rfl rfl rfl Tryz.underlying84 rfl rfl (cell_of (fs_at M (fun y (hy : y ∈ fsB bf bv (usedL l) { S with E := E7 }) => by simp [hy])) rfl) ?_
      refine go 2 ?_
      intro bbx2 _ M
      refine x_mup (enc := strV) (cleanP o.p).1 rfl rfl rfl (strKey Tryz.underlying9) Tryz.underlying84 rfl rfl rfl (M.get (by simp [fsB])) hR.mp ?_
      intro omu1 wmu1 hmmu1 hwmu1
      have M : Sep w00 ((bbx2, _) :: (bal2, _) :: (bal1, _) :: (bbx1, _) :: (fsB bf bv (usedL l) { S with E := E7, om := omu1 } ++ (Lb ++ (L ++ L6)))) wmu1 := M.put 5 rfl hwmu1
      obtain ⟨hR7, hU7⟩ := hR.put (c := (⟨(cleanP o.p).1, bbx2, true, .slice none 0 0, [], [], 0, []⟩ : Con)) (p := (cleanP o.p).1) habs rfl rfl ⟨by simp, fun _ => OwL.nil, fun h => by cases h⟩ hT7 hmmu1
      refine ⟨trivial, ?_⟩
      refine go 0 ?_
      refine x_nei false rfl rfl rfl rfl rfl (bne_eq_false_iff_eq.2 hco4) ?_
      refine cnd 1 ?_ ?_
      ·intro hco6
       refine go 0 ?_
       refine x_call rfl rfl rfl rfl rfl en40 (fail_c) ?_
       rintro r_ wcall8 ⟨rfl, hncall8⟩
       have M := M.new hncall8
       refine ⟨trivial, ?_⟩
       refine go 1 ?_
       intro _ M
       refine go 1 ?_
       exfalso
       have hz : (findL l (cleanP o.p).1).1.2.1 = true := hco6
       rw [findL_bad (by rw [hsp1]; decide)] at hz
       cases hz
      ·intro hco6
       refine go 2 ?_
       refine x_ia i rfl rfl rfl Tryz.underlying116 sz86 rfl rfl rfl (by omega) ?_
       refine x_st [_, _] (fsC bv (usedL l) { S with E := E7, om := omu1, hs := S.hs.set (16 * a + i) ((cleanP o.p).1, o.w) }) rfl rfl rfl sz86 rfl rfl rfl rfl (fs_at M (fun y (hy : y ∈ fsB bf bv (usedL l) { S with E := E7, om := omu1 }) => by simp [hy])) rfl (by rw [fsC_len (S := { S with E := E7, om := omu1 }) hR.hl]; exact Nat.ble_eq_true_of_le (by simp only [List.length_cons, List.length_nil]; omega)) (fsC_put (S := { S with E := E7, om := omu1 }) (h' := ((cleanP o.p).1, o.w)) hq (by omega)) ?_
       intro wst5 hwst5
       have M : Sep w00 ((bbx2, _) :: (bal2, _) :: (bal1, _) :: (bbx1, _) :: (fsB bf bv (usedL l) { S with E := E7, om := omu1, hs := S.hs.set (16 * a + i) ((cleanP o.p).1, o.w) } ++ (Lb ++ (L ++ L6)))) wst5 := M.put 4 rfl hwst5
       refine ⟨trivial, ?_⟩
       refine go 0 ?_
       refine x_add ((i : Int) + 1) rfl rfl rfl rfl rfl (wadd (by omega) (by omega)) ?_
       refine go 2 ?_
       intro _ M
       refine go 1 ?_
       have hP0 : (cleanP o.p).1 ≠ [] := fun e => by rw [e, findL_root] at hsp1; cases hsp1
       have hR8 := hR7.hset (a := a) (i := i) (h' := ((cleanP o.p).1, o.w)) ha hi (fun _ => ⟨[], withR_mem.2 (.inl rfl)⟩)
       rw [if_neg hP0] at hR8
       have hst : openS l hf (a : Int) o = (⟨0, (i : Int) + 1, 0, [], []⟩, withR l ((cleanP o.p).1, false, []), setH hf (a : Int) ((i : Int) + 1) (some ((cleanP o.p).1, o.w))) := by unfold openS; rw [hlow]; simp only; rw [if_pos hco2, if_pos ⟨hsp1, hco3⟩, if_pos hco4, put_new habs hco4]
       rw [hst]
       have M := open_blk (c := (⟨(cleanP o.p).1, bbx2, true, .slice none 0 0, [], [], 0, []⟩ : Con)) M rfl rfl
       rw [← hU7] at M
       exact post_same hR8 M rfl rfl rfl
     ·intro hco4
      refine go 0 ?_
      refine x_nei true rfl rfl rfl rfl rfl (bne_iff_ne.2 hco4) ?_
      refine go 0 ?_
      refine x_call rfl rfl rfl rfl rfl en40 (fail_c) ?_
      rintro r_ wcall9 ⟨rfl, hncall9⟩
      have M := M.new hncall9
      refine ⟨trivial, ?_⟩
      refine go 1 ?_
      intro _ M
      refine go 1 ?_
      exact post_bad (hR.tree (by rw [putL_bad hco4] at hT7; exact hT7) (fun _ _ => Iff.rfl) hR.dd hR.us) (St.drop3 M) (by unfold openS; rw [hlow]; simp only; rw [if_pos hco2, if_pos ⟨hsp1, hco3⟩, if_neg hco4])
    ·intro hco3
     refine go 0 ?_
     refine x_nei true rfl rfl rfl rfl rfl (bne_iff_ne.2 (by rw [hsp1]; decide)) ?_
     refine go 0 ?_
     refine x_call rfl rfl rfl rfl rfl en40 (fail_c) ?_
     rintro r_ wcall10 ⟨rfl, hncall10⟩
     have M := M.new hncall10
     refine ⟨trivial, ?_⟩
     refine go 1 ?_
     intro _ M
     refine go 1 ?_
     exact post_bad hR (St.drop3 M) (by unfold openS; rw [hlow]; simp only; rw [if_pos hco2, if_neg (fun h => by rw [h.2] at hco3; cases hco3), if_neg (by rw [hsp1]; decide), hsp1])
   ·intro hsp1
    refine cnd 1 ?_ ?_
    ·intro hco10
     refine go 0 ?_
     refine x_call rfl rfl rfl rfl rfl en40 (fail_c) ?_
     rintro r_ wcall11 ⟨rfl, hncall11⟩
     have M := M.new hncall11
     refine ⟨trivial, ?_⟩
     refine go 1 ?_
     intro _ M
     refine go 1 ?_
     exact post_bad hR (St.drop3 M) (by unfold openS; rw [hlow]; simp only; rw [if_pos hco2, if_neg (fun h => hsp1 h.1), if_neg hco10])
    ·intro hco10
     refine cnd 1 ?_ ?_
     ·intro hco11
      have hco11 : (findL l (cleanP o.p).1).1.2.1 = true := hco11
      refine go 0 ?_
      refine x_call rfl rfl rfl rfl rfl en40 (fail_c) ?_
      rintro r_ wcall12 ⟨rfl, hncall12⟩
      have M := M.new hncall12
      refine ⟨trivial, ?_⟩
      refine go 1 ?_
      intro _ M
      refine go 1 ?_
      exact post_bad hR (St.drop3 M) (by unfold openS; rw [hlow]; simp only; rw [if_pos hco2, if_neg (fun h => hsp1 h.1), if_pos hco10, if_pos hco11])
     ·intro hco11
      have hco11 : (findL l (cleanP o.p).1).1.2.1 = false := hco11
      obtain ⟨d, hm, hP0⟩ := hR.isfile hco10 hco11
      refine go 2 ?_
      refine x_ia i rfl rfl rfl Tryz.underlying116 sz86 rfl rfl rfl (by omega) ?_
      refine x_st [_, _] (fsC bv (usedL l) { S with hs := S.hs.set (16 * a + i) ((cleanP o.p).1, o.w) }) rfl rfl rfl sz86 rfl rfl rfl rfl (fs_at M (fun y (hy : y ∈ fsB bf bv (usedL l) S) => by simp [hy])) rfl (by rw [fsC_len hR.hl]; exact Nat.ble_eq_true_of_le (by simp only [List.length_cons, List.length_nil]; omega)) (fsC_put (h' := ((cleanP o.p).1, o.w)) hq (by omega)) ?_
      intro wst11 hwst11
      have M : Sep w00 ((bal2, _) :: (bal1, _) :: (bbx1, _) :: (fsB bf bv (usedL l) { S with hs := S.hs.set (16 * a + i) ((cleanP o.p).1, o.w) } ++ (Lb ++ (L ++ L6)))) wst11 := M.put 3 rfl hwst11
      refine ⟨trivial, ?_⟩
      refine go 0 ?_
      refine x_add ((i : Int) + 1) rfl rfl rfl rfl rfl (wadd (by omega) (by omega)) ?_
      refine go 2 ?_
      intro _ M
      refine go 1 ?_
      have hR8 := hR.hset (a := a) (i := i) (h' := ((cleanP o.p).1, o.w)) ha hi (fun _ => ⟨d, hm⟩)
      rw [if_neg hP0] at hR8
      have hst : openS l hf (a : Int) o = (⟨0, (i : Int) + 1, 0, [], []⟩, l, setH hf (a : Int) ((i : Int) + 1) (some ((cleanP o.p).1, o.w))) := by unfold openS; rw [hlow]; simp only; rw [if_pos hco2, if_neg (fun h => hsp1 h.1), if_pos hco10, if_neg (by rw [hco11]; simp)]
      rw [hst]
      exact post_same hR8 (St.drop3 M) rfl rfl rfl

end Go.Proofs.YtigfbpbnohkokaaGreat

namespace Go.Proofs.YtigfbpbnohkokaaGreat
open Go Go.Fw Go.RowKit
set_option linter.unusedVariables false
set_option linter.unusedSimpArgs false

theorem mvN_fst (x y : List UInt8) (f : Raw) : (mvN x y f).1 = movP x y f.1 := by unfold mvN movP; split <;> rfl
theorem mvN_eq (x y : List UInt8) (f : Raw) : mvN x y f = (movP x y f.1, f.2) := Prod.ext (mvN_fst x y f) (mvN_snd x y f)
theorem rename_mov {l : List Raw} {x y : List UInt8} (h0 : (renameL l x y).2 = 0) (hne : x ≠ y) : x ≠ [] ∧ (renameL l x y).1 = movL x y l := by
 unfold renameL at h0 ⊢
 split
 ·rename_i h1
  rw [if_pos h1] at h0
  split
  ·rename_i h2; rw [if_pos h2] at h0; cases h0
  ·rename_i h2
   rw [if_neg h2] at h0
   refine ⟨h2, ?_⟩
   split
   ·rename_i h3
    rw [if_pos h3, if_neg hne] at h0
    try rw [if_neg hne]
    split
    ·rename_i h4; rw [if_pos h4] at h0; cases h0
    ·rename_i h4
     rw [if_neg h4] at h0
     split
     ·rename_i h5; rw [if_pos h5] at h0; cases h0
     ·rename_i h5
      rw [if_neg h5] at h0
      split
      ·rename_i h6; rw [if_pos h6] at h0; cases h0
      ·rfl
   ·rename_i h3; rw [if_neg h3] at h0; exact absurd h0 h3
 ·rename_i h1; rw [if_neg h1] at h0; exact absurd h0 h1
def movC (x y : List UInt8) (c : Con) : Con := { c with k := movP x y c.k }
def movHd (x y : List UInt8) (h : Hd) : Hd := if h.1 ≠ [] ∧ underP h.1 x = true then (y ++ h.1.drop x.length, h.2) else h
theorem cblks_mov (x y : List UInt8) (C : List Con) : cblks (C.map (movC x y)) = cblks C := by
 unfold cblks
 rw [List.flatMap_map]; rfl
/-- What was moved over. -/
def MovM (C : List Con) (x y : List UInt8) (vis : List (List UInt8)) (g : List UInt8 → Option Value) : Prop := ∀ q v, g q = some v ↔ ∃ k ∈ vis, ∃ c, cget C k = some c ∧ movP x y k = q ∧ v = ptr c.b
section
variable {base : BaseF} {S : FSt} {l : List Raw} {hf : HF} {c : Con} {x y k : List UInt8} {E' : List Ent} {om' : Obj} {vis : List (List UInt8)} {g : List UInt8 → Option Value}
theorem MovM.nil (C : List Con) (x y : List UInt8) : MovM C x y [] (fun _ => none) := fun q v => ⟨fun h => (by cases h), fun ⟨k, hk, _⟩ => (by cases hk)⟩
theorem MovM.step {C : List Con} (h : MovM C x y vis g) (hinj : ∀ k' ∈ vis, ∀ c', cget C k' = some c' → movP x y k' = movP x y k → k' = k) (hk : k ∉ vis) (hc : cget C k = some c) : MovM C x y (k :: vis) (setF g (movP x y k) (some (ptr c.b))) := by
 intro q v
 unfold setF
 by_cases e : q = movP x y k
 ·rw [if_pos e]
  constructor
  ·intro hv
   exact ⟨k, by simp, c, hc, e.symm, (Option.some.inj hv).symm⟩
  ·rintro ⟨k', hk', c', h1, h2, h3⟩
   rcases List.mem_cons.1 hk' with rfl | hk'
   ·rw [hc] at h1; cases h1; rw [h3]
   ·exact absurd (hinj k' hk' c' h1 (h2.trans e) ▸ hk') hk
 ·rw [if_neg e, h]
  constructor
  ·rintro ⟨k', hk', r⟩
   exact ⟨k', List.mem_cons_of_mem _ hk', r⟩
  ·rintro ⟨k', hk', c', h1, h2, h3⟩
   rcases List.mem_cons.1 hk' with rfl | hk'
   ·exact absurd h2.symm e
   ·exact ⟨k', hk', c', h1, h2, h3⟩
/-- Names that are moved stay apart. -/
theorem FR.mvinj (h : FR base S l hf) (h0 : (renameL l x y).2 = 0) (hne : x ≠ y) {f f' : Raw} (hf : f ∈ l) (hf' : f' ∈ l) (e : movP x y f.1 = movP x y f'.1) : f.1 = f'.1 := by
 have hb0 : (renameL (bareL l) x y).2 = 0 := by rw [bare_rename]; exact h0
 obtain ⟨m, _⟩ := mv_ok h.tr hb0 hne
 have h1 := (mv_back h.tr m (f := bareR f) (List.mem_map.2 ⟨f, hf, rfl⟩)).1
 have h2 := (mv_back h.tr m (f := bareR f') (List.mem_map.2 ⟨f', hf', rfl⟩)).1
 have h1 := congrArg (·.1) h1
 have h2 := congrArg (·.1) h2
 simp only [mvN_fst] at h1 h2
 have e1 : (bareR f).1 = f.1 := rfl
 have e2 : (bareR f').1 = f'.1 := rfl
 rw [e1] at h1
 rw [e2] at h2
 rw [← h1, e, h2]
theorem FR.movM (h : FR base S l hf) (h0 : (renameL l x y).2 = 0) (hne : x ≠ y) (hM : MovM S.C x y vis g) (hall : ∀ k, cmap S.C k ≠ none → k ∈ vis) : g = cmap (S.C.map (movC x y)) := by
 have hnd : ((S.C.map (movC x y)).map (·.k)).Nodup := by
  rw [List.map_map]
  have : ∀ {C : List Con}, (∀ c ∈ C, c ∈ S.C) → (C.map (·.k)).Nodup → (C.map ((·.k) ∘ movC x y)).Nodup := by
   intro C
   induction C with
   | nil => intro _ _; simp
   | cons c C ih =>
    intro hs hn
    simp only [List.map_cons, List.nodup_cons] at hn ⊢
    refine ⟨fun hm => ?_, ih (fun c hc => hs c (List.mem_cons_of_mem _ hc)) hn.2⟩
    obtain ⟨c', hc', e⟩ := List.mem_map.1 hm
    have e : movP x y c'.k = movP x y c.k := e
    have := h.mvinj h0 hne (h.row (hs c' (List.mem_cons_of_mem _ hc'))) (h.row (hs c List.mem_cons_self)) e
    exact hn.1 (List.mem_map.2 ⟨c', hc', this⟩)
  exact this (fun c hc => hc) h.cn
 funext q
 have key : ∀ v, g q = some v ↔ cmap (S.C.map (movC x y)) q = some v := by
  intro v
  rw [hM]
  constructor
  ·rintro ⟨k, hk, c, h1, rfl, rfl⟩
   obtain ⟨hc, rfl⟩ := cget_mem h1
   have := cget_of hnd (List.mem_map.2 ⟨c, hc, rfl⟩)
   unfold cmap
   rw [show (movC x y c).k = movP x y c.k from rfl] at this
   rw [this]; rfl
  ·intro hv
   unfold cmap at hv
   cases hg : cget (S.C.map (movC x y)) q with
   | none => rw [hg] at hv; cases hv
   | some c' =>
    rw [hg] at hv
    obtain ⟨hc', hk'⟩ := cget_mem hg
    obtain ⟨c, hc, rfl⟩ := List.mem_map.1 hc'
    have hcg := cget_of h.cn hc
    exact ⟨c.k, hall _ (by unfold cmap; rw [hcg]; simp), c, hcg, hk', (Option.some.inj hv).symm⟩
 cases hgq : g q with
 | none =>
  cases hcq : cmap (S.C.map (movC x y)) q with
  | none => rfl
  | some v => rw [(key v).2 hcq] at hgq; cases hgq
 | some v => exact ((key v).1 hgq).symm
theorem movP_ne (hx : x ≠ []) (hy : y ≠ []) (hk : k ≠ []) : movP x y k ≠ [] := by
 unfold movP
 split
 ·intro e; exact hy (List.append_eq_nil_iff.1 e).1
 ·exact hk
theorem movHd_eq {h : Hd} (h0 : h.1 ≠ []) : movHd x y h = (movP x y h.1, h.2) := by
 unfold movHd movP
 by_cases e : underP h.1 x = true
 ·rw [if_pos ⟨h0, e⟩, if_pos e]
 ·rw [if_neg (fun h => e h.2), if_neg e]
theorem movHd_nil {h : Hd} (h0 : h.1 = []) : movHd x y h = h := by unfold movHd; rw [if_neg (fun h => h.1 h0)]
/-- All is moved. -/
theorem FR.rename {bm : Nat} (h : FR base S l hf) (h0 : (renameL l x y).2 = 0) (hne : x ≠ y) (hy : y ≠ []) (ht : TR E' (bareL (renameL l x y).1)) (hm : MapF strV om' g) (hM : MovM S.C x y vis g) (hall : ∀ k, cmap S.C k ≠ none → k ∈ vis) :
  FR base { S with E := E', bm := bm, om := om', C := S.C.map (movC x y), hs := S.hs.map (movHd x y) } (renameL l x y).1 (movH hf x y) ∧ usedL (renameL l x y).1 = usedL l := by
 obtain ⟨hx, hl'⟩ := rename_mov h0 hne
 have hg := h.movM h0 hne hM hall
 have hn' : ((renameL l x y).1.map (·.1)).Nodup := by have := srt_names ht.rel.srt; rwa [bare_names'] at this
 rw [hl'] at ht hn' ⊢
 have hinj : ∀ {f f' : Raw}, f ∈ l → f' ∈ l → movP x y f.1 = movP x y f'.1 → f = f' := fun hf hf' e => names_inj h.names hf hf' (h.mvinj h0 hne hf hf' e)
 have hus : usedL (movL x y l) = usedL l := by
  have hp : (movL x y l).Perm (l.map (mvN x y)) := by
   have hnd1 : (movL x y l).Nodup := by
    have := hn'
    exact (List.Pairwise.of_map (fun x : Raw => x.1) (fun a b hab e => hab (by rw [e])) this)
   have hnd2 : (l.map (mvN x y)).Nodup := by
    have hnl : l.Nodup := List.Pairwise.of_map (fun x : Raw => x.1) (fun a b hab e => hab (by rw [e])) h.names
    have : ∀ {m : List Raw}, (∀ z ∈ m, z ∈ l) → m.Nodup → (m.map (mvN x y)).Nodup := by
     intro m
     induction m with
     | nil => intro _ _; simp
     | cons z m ih =>
      intro hs hn
      simp only [List.map_cons, List.nodup_cons] at hn ⊢
      refine ⟨fun hm => ?_, ih (fun z hz => hs z (List.mem_cons_of_mem _ hz)) hn.2⟩
      obtain ⟨w, hw, e⟩ := List.mem_map.1 hm
      have := hinj (hs w (List.mem_cons_of_mem _ hw)) (hs z List.mem_cons_self) (by have := congrArg (·.1) e; simpa only [mvN_fst] using this)
      exact hn.1 (this ▸ hw)
    exact this (fun z hz => hz) hnl
   exact (List.perm_ext_iff_of_nodup hnd1 hnd2).2 fun z => by
    rw [mv_mem, List.mem_map]
    exact ⟨fun ⟨f, h1, h2⟩ => ⟨f, h1, h2.symm⟩, fun ⟨f, h1, h2⟩ => ⟨f, h1, h2.symm⟩⟩
  rw [usedL_perm hp]
  unfold usedL
  rw [List.map_map]
  congr 1
  apply List.map_congr_left
  intro z _
  show (mvN x y z).2.2.length = _
  rw [mvN_snd]
 have hmem : ∀ q d, (q, false, d) ∈ movL x y l ↔ ∃ p, (p, false, d) ∈ l ∧ movP x y p = q := by
  intro q d
  rw [mv_mem]
  constructor
  ·rintro ⟨f, hf, e⟩
   rw [mvN_eq] at e
   obtain ⟨a, b⟩ := f
   simp only [Prod.mk.injEq] at e
   obtain ⟨rfl, rfl⟩ := e
   exact ⟨a, hf, rfl⟩
  ·rintro ⟨p, hp, rfl⟩
   exact ⟨_, hp, by rw [mvN_eq]⟩
 refine ⟨⟨ht, ?_, ?_, ?_, ?_, ?_, by rw [hus]; exact h.us, by simpa using h.hl, ?_, ?_⟩, hus⟩
 ·show MapF strV om' (cmap (S.C.map (movC x y)))
  rw [← hg]; exact hm
 ·show ((S.C.map (movC x y)).map (·.k)).Nodup
  rw [List.map_map]
  have : ∀ {C : List Con}, (∀ c ∈ C, c ∈ S.C) → (C.map (·.k)).Nodup → (C.map ((·.k) ∘ movC x y)).Nodup := by
   intro C
   induction C with
   | nil => intro _ _; simp
   | cons c C ih =>
    intro hs hn
    simp only [List.map_cons, List.nodup_cons] at hn ⊢
    refine ⟨fun hm => ?_, ih (fun c hc => hs c (List.mem_cons_of_mem _ hc)) hn.2⟩
    obtain ⟨c', hc', e⟩ := List.mem_map.1 hm
    have e : movP x y c'.k = movP x y c.k := e
    have := h.mvinj h0 hne (h.row (hs c' (List.mem_cons_of_mem _ hc'))) (h.row (hs c List.mem_cons_self)) e
    exact hn.1 (List.mem_map.2 ⟨c', hc', this⟩)
  exact this (fun c hc => hc) h.cn
 ·intro c hc
  obtain ⟨c0, hc0, rfl⟩ := List.mem_map.1 hc
  have := h.ok c0 hc0
  exact ⟨this.le, this.own, this.bas⟩
 ·intro q d
  rw [hmem]
  constructor
  ·rintro ⟨p, hp, rfl⟩
   obtain ⟨c, hc, rfl, rfl⟩ := (h.cl p d).1 hp
   exact ⟨movC x y c, List.mem_map.2 ⟨c, hc, rfl⟩, rfl, rfl⟩
  ·rintro ⟨c', hc', rfl, rfl⟩
   obtain ⟨c, hc, rfl⟩ := List.mem_map.1 hc'
   exact ⟨c.k, h.row hc, rfl⟩
 ·intro z hz hd
  obtain ⟨f, hf, rfl⟩ := mv_mem.1 hz
  rw [mvN_snd] at hd ⊢
  exact h.dd f hf hd
 ·rw [h.hh]
  funext who n
  show (hAt S.hs who n).map (fun v => (movP x y v.1, v.2)) = hAt (S.hs.map (movHd x y)) who n
  unfold hAt
  by_cases e : 0 ≤ who ∧ who < 8 ∧ 1 ≤ n ∧ n ≤ 16
  ·rw [if_pos e, if_pos e, List.getElem?_map]
   cases S.hs[16 * who.toNat + (n - 1).toNat]? with
   | none => rfl
   | some v =>
    simp only [Option.map_some]
    by_cases e2 : v.1 = []
    ·rw [if_pos e2, movHd_nil e2, if_pos e2]; rfl
    ·rw [if_neg e2, movHd_eq e2, if_neg (movP_ne hx hy e2)]; rfl
  ·rw [if_neg e, if_neg e]; rfl
 ·intro v hv hv0
  obtain ⟨u, hu, rfl⟩ := List.mem_map.1 hv
  by_cases e2 : u.1 = []
  ·rw [movHd_nil e2] at hv0; exact absurd e2 hv0
  ·rw [movHd_eq e2]
   obtain ⟨d, hd⟩ := h.ho u hu e2
   exact ⟨d, (hmem _ _).2 ⟨u.1, hd, rfl⟩⟩
end
end Go.Proofs.YtigfbpbnohkokaaGreat

namespace Go.Proofs.YtigfbpbnohkokaaGreat
open Go Go.Fw Go.RowKit
set_option linter.unusedVariables false
set_option linter.unusedSimpArgs false

def leftC (C : List Con) (vis : List (List UInt8)) : Nat := (C.filter fun c => decide (c.k ∉ vis)).length
theorem leftC_lt {C : List Con} {c : Con} {vis : List (List UInt8)} (hc : c ∈ C) (hv : c.k ∉ vis) : leftC C (c.k :: vis) < leftC C vis := by
 unfold leftC
 have h1 : ∀ C : List Con, (C.filter fun c' => decide (c'.k ∉ c.k :: vis)).length ≤ (C.filter fun c' => decide (c'.k ∉ vis)).length := by
  intro C
  induction C with
  | nil => simp
  | cons d C ih =>
   rw [List.filter_cons, List.filter_cons]
   by_cases e : d.k ∉ c.k :: vis
   ·have e2 : d.k ∉ vis := fun h => e (List.mem_cons_of_mem _ h)
    rw [if_pos (by simpa using e), if_pos (by simpa using e2)]
    simp only [List.length_cons]; omega
   ·rw [if_neg (by simpa using e)]
    split
    ·simp only [List.length_cons]; omega
    ·exact ih
 induction C with
 | nil => cases hc
 | cons d C ih =>
  rw [List.filter_cons, List.filter_cons]
  rcases List.mem_cons.1 hc with rfl | hc'
  ·rw [if_neg (by simp), if_pos (by simpa using hv)]
   have := h1 C
   simp only [List.length_cons]; omega
  ·have ih := ih hc'
   by_cases e : d.k ∉ c.k :: vis
   ·have e2 : d.k ∉ vis := fun h => e (List.mem_cons_of_mem _ h)
    rw [if_pos (by simpa using e), if_pos (by simpa using e2)]
    simp only [List.length_cons]; omega
   ·rw [if_neg (by simpa using e)]
    split
    ·simp only [List.length_cons]; omega
    ·exact ih
theorem nxt_split {κ : Type} [DecidableEq κ] {enc : κ → Value} {o ito : Obj} {r it : Nat} {g : κ → Option Value} {vis : List κ} {vs : Array Value} {w w1 : World}
  (h : ((∀ k, g k ≠ none → k ∈ vis) ∧ vs = #[.bool false] ∧ w1 = w) ∨ (∃ k v w0 ito', g k = some v ∧ k ∉ vis ∧ (w0 = w ∨ w0 = w.drew) ∧ ItO enc o ito' r g (k :: vis) ∧ LastO o ito' r (enc k) v ∧ vs = #[.bool true, enc k, v] ∧ w1 = w0.putObj it ito')) :
  ∃ bb ito', vs[0]? = some (.bool bb) ∧ ((w1 = w ∧ ito' = ito) ∨ ∃ w0, (w0 = w ∨ w0 = w.drew) ∧ w1 = w0.putObj it ito') ∧ (bb = false → ∀ k, g k ≠ none → k ∈ vis) ∧ (bb = true → ∃ k v, g k = some v ∧ k ∉ vis ∧ ItO enc o ito' r g (k :: vis) ∧ LastO o ito' r (enc k) v) := by
 rcases h with ⟨h1, rfl, rfl⟩ | ⟨k, v, w0, ito', h1, h2, h3, h4, h5, rfl, rfl⟩
 ·exact ⟨false, ito, rfl, .inl ⟨rfl, rfl⟩, fun _ => h1, fun h => by cases h⟩
 ·exact ⟨true, ito', rfl, .inr ⟨w0, h3, rfl⟩, (fun h => by cases h), fun _ => ⟨k, v, h1, h2, h4, h5⟩⟩
def movHs (hs : List Hd) (x y : List UInt8) (n : Nat) : List Hd := (hs.take n).map (movHd x y) ++ hs.drop n
section
variable {hs : List Hd} {x y : List UInt8} {n : Nat} {h : Hd}
theorem movHs_len : (movHs hs x y n).length = hs.length := by unfold movHs; simp; omega
theorem movHs_zero : movHs hs x y 0 = hs := by simp [movHs]
theorem movHs_all (h : hs.length ≤ n) : movHs hs x y n = hs.map (movHd x y) := by
 unfold movHs
 rw [List.take_of_length_le h, List.drop_of_length_le h, List.append_nil]
theorem movHs_get (hq : hs[n]? = some h) : (movHs hs x y n)[n]? = some h := by
 have hn : n < hs.length := (List.getElem?_eq_some_iff.1 hq).1
 unfold movHs
 rw [List.getElem?_append_right (by simp; omega)]
 simp only [List.length_map, List.length_take, Nat.min_eq_left (Nat.le_of_lt hn), Nat.sub_self, List.getElem?_drop, Nat.add_zero]
 exact hq
theorem movHs_set (hq : hs[n]? = some h) : (movHs hs x y n).set n (movHd x y h) = movHs hs x y (n + 1) := by
 have hn : n < hs.length := (List.getElem?_eq_some_iff.1 hq).1
 rw [set_at (movHs_get hq)]
 unfold movHs
 have hl : ((hs.take n).map (movHd x y)).length = n := by simp; omega
 rw [tk_app hl, dr_app 1 hl, List.drop_drop, take_snoc hq, List.map_append]
 simp
theorem movHs_same (hq : hs[n]? = some h) (hm : movHd x y h = h) : movHs hs x y (n + 1) = movHs hs x y n := by
 rw [← movHs_set hq, hm]
 obtain ⟨hl, he⟩ := List.getElem?_eq_some_iff.1 (movHs_get (x := x) (y := y) hq)
 conv => lhs; rw [← he]
 simp
end
section
variable {S0 : Nat → Prop} {w0 w : World} {it x y : Nat × Obj} {T : List (Nat × Obj)} {bf u bm : Nat} {bv : Value} {S : FSt} {om : Obj}
theorem fs_moved (h : St S0 w0 (it :: (bm, om) :: x :: y :: (((bf, .cells (fsC bv u { S with bm := bm }).toArray 90 (0, 0)) :: (S.bm, S.om) :: (tb S.bt S.E ++ cblks S.C)) ++ T)) w) :
  St S0 w0 (x :: y :: (fsB bf bv u { S with bm := bm, om := om } ++ T)) w := by
 have h : St S0 w0 (it :: (S.bm, S.om) :: (x :: y :: (fsB bf bv u { S with bm := bm, om := om } ++ T))) w := h.perm (perm_c fun p => by
  unfold fsB
  have e : fsC bv u { S with bm := bm, om := om } = fsC bv u { S with bm := bm } := rfl
  simp only [e, List.countP_append, List.countP_cons]
  omega)
 exact h.tail.tail
theorem fs_mov {x' y' : List UInt8} : fsB bf bv u { S with C := S.C.map (movC x' y') } = fsB bf bv u S := by
 unfold fsB
 simp only [cblks_mov]
 rfl
end
theorem under_self {x q : List UInt8} (h : underP q x = true) : ∃ t, q = x ++ t := by
 obtain ⟨h1, h2, c, hc⟩ := under_facts h
 rw [namesP_splitN h1, namesP_splitN h2] at hc
 have e1 := joinS_splitN h1
 have e2 := joinS_splitN h2
 by_cases h0 : splitN x = []
 ·have : x = [] := (sN_nil h2).1 h0
  exact ⟨q, by rw [this]; rfl⟩
 ·rw [hc, joinS_cat h0, e2] at e1
  exact ⟨_, e1.symm⟩
theorem movP_self (x q : List UInt8) : movP x x q = q := by
 unfold movP
 split
 ·rename_i h
  obtain ⟨t, rfl⟩ := under_self h
  simp
 ·rfl
theorem movH_self (hf : HF) (x : List UInt8) : movH hf x x = hf := by
 funext a b
 unfold movH
 cases hf a b with
 | none => rfl
 | some v => simp [movP_self]
end Go.Proofs.YtigfbpbnohkokaaGreat

namespace Go.Proofs.YtigfbpbnohkokaaGreat
open Go Go.Fw Go.RowKit Go.Proofs
set_option linter.unusedVariables false
set_option linter.unusedSimpArgs false
set_option maxRecDepth 100000
set_option maxHeartbeats 4000000

-- (*valise/overlay.FS).rename
theorem renameH_c {w00 w0 : World} {bf : Nat} {bv dv : Value} {S : FSt} {base : BaseF} {Lb L : List (Nat × Obj)} {l : List Raw} {hf : HF} {o : OpS} {p : List UInt8} (M : Sep w00 (fsB bf bv (usedL l) S ++ (Lb ++ L)) w0) (hR : FR base S l hf)  (hdv : ∃ pd cd, dv = .slice pd o.d.length cd) : Ret Tryz.prog 74 #[ptr bf, strV p, .agg (opC o dv).toArray] w0 (PostS base bf bv w00 Lb L (renameS l hf p o.q)) := by
 obtain ⟨pd, cd, rfl⟩ := hdv
 refine Ret.of_W Tryz.func74 rfl Tryz.ntmps74 rfl ?_
 refine go 1 ?_
 intro bbx1 _ M
 refine go 1 ?_
 intro bal1 _ M
 refine go 1 ?_
 refine x_call rfl rfl rfl rfl rfl en45 (clean_c) ?_
 rintro r wcall1 ⟨rfl, hncall1⟩
 have M := M.new hncall1
 refine ⟨trivial, ?_⟩
 refine cnd 1 ?_ ?_
 ·intro hco1
  refine go 0 ?_
  refine x_call rfl rfl rfl rfl rfl en40 (fail_c) ?_
  rintro r_ wcall2 ⟨rfl, hncall2⟩
  have M := M.new hncall2
  refine ⟨trivial, ?_⟩
  refine go 1 ?_
  intro _ M
  refine go 1 ?_
  exact post_bad hR M.tail.tail (by unfold renameS; rw [if_neg hco1])
 ·intro hco1
  refine go 0 ?_
  refine x_ld rfl rfl rfl Tryz.underlying83 rfl rfl (cell_of (fs_at M (fun y (hy : y ∈ fsB bf bv (usedL l) S) => by simp [hy])) rfl) ?_
  refine go 0 ?_
  refine x_call rfl rfl rfl rfl rfl en105 (rename_r (x := p) (y := (cleanP o.q).1) (St.tri (X := [_, _]) M) hR.tr) ?_
  rintro r_ w3 ⟨E3, rfl, hT3, M⟩
  rw [bare_rename] at hT3 ⊢
  have M := St.tro (X := [_, _]) M
  refine ⟨trivial, ?_⟩
  refine spl 1 35 ?_ ?_
  ·intro hsp1
   refine go 0 ?_
   refine x_call rfl rfl rfl rfl rfl en40 (fail_c) ?_
   rintro r_ wcall4 ⟨rfl, hncall4⟩
   have M := M.new hncall4
   refine ⟨trivial, ?_⟩
   refine go 1 ?_
   intro _ M
   refine go 1 ?_
   exact post_bad (hR.tree (by rw [renameL_bad hsp1] at hT3; exact hT3) (fun _ _ => Iff.rfl) hR.dd hR.us) M.tail.tail (by unfold renameS; rw [if_pos hco1, if_neg hsp1])
  ·intro hsp1
   refine cnd 1 ?_ ?_
   ·intro hco3
    refine go 0 ?_
    refine x_call rfl rfl rfl rfl rfl en40 (fail_c) ?_
    rintro r_ wcall5 ⟨rfl, hncall5⟩
    have M := M.new hncall5
    refine ⟨trivial, ?_⟩
    refine go 1 ?_
    intro _ M
    refine go 1 ?_
    have hl := rename_same (l := l) (x := p) (by have := hsp1; rw [← hco3] at this; exact this)
    exact post_bad (e := (renameL l p (cleanP o.q).1).2) (hR.tree (by rw [← hco3, hl] at hT3; exact hT3) (fun _ _ => Iff.rfl) hR.dd hR.us) M.tail.tail (by unfold renameS; rw [if_pos hco1, if_pos hsp1, hsp1, ← hco3, hl, movH_self])
   ·intro hco3
    have hne : p ≠ (cleanP o.q).1 := hco3
    have hb0 : (renameL (bareL l) p (cleanP o.q).1).2 = 0 := by rw [bare_rename]; exact hsp1
    obtain ⟨mok, _⟩ := mv_ok hR.tr hb0 hne
    have hyl := splitE_len mok.fy.1
    have hy0 : (cleanP o.q).1 ≠ [] := fun e => mok.fy.2 (by rw [e]; rfl)
    have hkl : ∀ c ∈ S.C, c.k.length ≤ 120 := fun c hc => hR.tr.names _ (List.mem_map.2 ⟨_, hR.row hc, rfl⟩)
    refine go 0 ?_
    refine x_mkmap rfl rfl rfl ?_
    intro bmm1 wmm1 hbmm1 hwmm1
    have M := M.acons hbmm1 hwmm1
    refine ⟨trivial, ?_⟩
    refine go 0 ?_
    refine x_ld rfl rfl rfl Tryz.underlying84 rfl rfl (cell_of (fs_at M (fun y (hy : y ∈ fsB bf bv (usedL l) { S with E := E3 }) => by simp [hy])) rfl) ?_
    refine x_rngM (enc := strV) (g := cmap S.C) (o := S.om) (r := S.bm) rfl rfl rfl Tryz.underlying84 rfl (M.get (by simp [fsB])) hR.mp ?_
    intro bit wit ito0 hbit hwit hIt0
    have M := M.acons hbit hwit
    refine ⟨trivial, ?_⟩
    refine go 0 ?_
    refine W.loop (σ := List (List UInt8) × Obj × Obj × (List UInt8 → Option Value)) (fun q => [(0, _), (1, _), (6, _), (7, _), (10, _), (47, _)]) (fun q w => ItO strV S.om q.2.1 S.bm (cmap S.C) q.1 ∧ MapF strV q.2.2.1 q.2.2.2 ∧ MovM S.C p (cleanP o.q).1 q.1 q.2.2.2 ∧ Sep w00 ((bit, q.2.1) :: (bmm1, q.2.2.1) :: (bal1, .cells [.int .i64 0, .int .i64 0, .int .i64 0, .slice none 0 0, .slice none 0 0].toArray 49 (0, 0)) :: (bbx1, .cells (opC o (.slice pd o.d.length cd)).toArray 52 (0, 0)) :: (fsB bf bv (usedL l) { S with E := E3 } ++ (Lb ++ L))) w) (fun q => leftC S.C q.1) ([], ito0, .map #[] 0, fun _ => none) ⟨rfl, rfl, rfl, rfl, rfl, rfl, trivial⟩ ⟨hIt0, MapF.made, MovM.nil _ _ _, M⟩ ?_
    rintro ⟨vis, ito, om2, g2⟩ w ⟨hIt, hm2, hMv, M⟩
    simp only at hIt hm2 hMv M
    refine go 0 ?_
    refine x_nxtM (enc := strV) rfl rfl rfl rfl (M.at_ 0 rfl) (M.get (by simp [fsB])) hIt ?_
    intro vs wn hvs
    obtain ⟨bb, ito2, hv0, hw2, hend, hmore⟩ := nxt_split (ito := ito) hvs
    have M : Sep w00 ((bit, ito2) :: (bmm1, om2) :: (bal1, .cells [.int .i64 0, .int .i64 0, .int .i64 0, .slice none 0 0, .slice none 0 0].toArray 49 (0, 0)) :: (bbx1, .cells (opC o (.slice pd o.d.length cd)).toArray 52 (0, 0)) :: (fsB bf bv (usedL l) { S with E := E3 } ++ (Lb ++ L))) wn := by
     rcases hw2 with ⟨rfl, rfl⟩ | ⟨w9, h9, rfl⟩
     ·exact M
     ·rcases h9 with rfl | rfl
      ·exact M.put 0 rfl rfl
      ·exact (M.drew rfl).put 0 rfl rfl
    refine ⟨trivial, ?_⟩
    refine x_ext rfl rfl rfl rfl hv0 ?_
    refine cnd 0 ?_ ?_
    ·intro hco4
     obtain ⟨k, v, hgk, hnv, hIt2, hLa⟩ := hmore hco4
     obtain ⟨c, hcg, hve⟩ : ∃ c, cget S.C k = some c ∧ v = ptr c.b := by
      unfold cmap at hgk
      cases hg : cget S.C k with
      | none => rw [hg] at hgk; cases hgk
      | some c => rw [hg] at hgk; exact ⟨c, rfl, (Option.some.inj hgk).symm⟩
     subst hve
     obtain ⟨hc, hck⟩ := cget_mem hcg
     have hk120 := hkl c hc
     rw [hck] at hk120
     have hdec : leftC S.C (k :: vis) < leftC S.C vis := by rw [← hck] at hnv ⊢; exact leftC_lt hc hnv
     have hstep := hMv.step (k := k) (c := c) (fun k2 hk2 c2 hc2 e => by
      obtain ⟨g1, g2_⟩ := cget_mem hc2
      have := hR.mvinj hsp1 hne (hR.row g1) (hR.row hc) (by rw [g2_, hck]; exact e)
      rw [← g2_, ← hck]; exact this) hnv hcg
     refine go 0 ?_
     refine (fun (hh : _ ∧ _) => x_ent rfl rfl rfl rfl (M.at_ 0 rfl) (M.get (by simp [fsB])) hLa hh.1 hh.2) ?_
     refine ⟨trivial, ?_⟩
     refine go 0 ?_
     refine x_call rfl rfl rfl rfl rfl en106 (under_c) ?_
     rintro r wcall6 ⟨rfl, hncall6⟩
     have M := M.new hncall6
     refine ⟨trivial, ?_⟩
     refine cnd 0 ?_ ?_
     ·intro hco5
      have hul := under_len hco5
      have hmv : movP p (cleanP o.q).1 k = (cleanP o.q).1 ++ k.drop p.length := by unfold movP; rw [if_pos hco5]
      rw [hmv] at hstep
      refine go 1 ?_
      refine x_sslS p.length rfl rfl rfl Tryz.underlying9 rfl rfl rfl (by omega) ?_
      refine x_catS rfl rfl rfl rfl rfl (by simp; omega) ?_
      refine go 0 ?_
      refine x_mup (enc := strV) ((cleanP o.q).1 ++ k.drop p.length) rfl rfl rfl (strKey Tryz.underlying9) Tryz.underlying84 rfl rfl rfl (M.at_ 1 rfl) hm2 ?_
      intro omu1 wmu1 hmmu1 hwmu1
      have M : Sep w00 ((bit, ito2) :: (bmm1, omu1) :: (bal1, .cells [.int .i64 0, .int .i64 0, .int .i64 0, .slice none 0 0, .slice none 0 0].toArray 49 (0, 0)) :: (bbx1, .cells (opC o (.slice pd o.d.length cd)).toArray 52 (0, 0)) :: (fsB bf bv (usedL l) { S with E := E3 } ++ (Lb ++ L))) wmu1 := M.put 1 rfl hwmu1
      refine ⟨trivial, ?_⟩
      refine go 0 ?_
      exact At.back ((k :: vis, ito2, omu1, setF g2 ((cleanP o.q).1 ++ k.drop p.length) (some (ptr c.b)))) ⟨rfl, rfl, rfl, rfl, rfl, rfl, trivial⟩ ⟨hIt2, hmmu1, hstep, M⟩ (by first | omega | (simp only; omega) | (simp; done) | (simp; omega))
     ·intro hco5
      have hmv : movP p (cleanP o.q).1 k = k := by unfold movP; rw [if_neg (by simp [hco5])]
      rw [hmv] at hstep
      refine go 0 ?_
      refine x_mup (enc := strV) k rfl rfl rfl (strKey Tryz.underlying9) Tryz.underlying84 rfl rfl rfl (M.at_ 1 rfl) hm2 ?_
      intro omu2 wmu2 hmmu2 hwmu2
      have M : Sep w00 ((bit, ito2) :: (bmm1, omu2) :: (bal1, .cells [.int .i64 0, .int .i64 0, .int .i64 0, .slice none 0 0, .slice none 0 0].toArray 49 (0, 0)) :: (bbx1, .cells (opC o (.slice pd o.d.length cd)).toArray 52 (0, 0)) :: (fsB bf bv (usedL l) { S with E := E3 } ++ (Lb ++ L))) wmu2 := M.put 1 rfl hwmu2
      refine ⟨trivial, ?_⟩
      refine go 0 ?_
      exact At.back ((k :: vis, ito2, omu2, setF g2 k (some (ptr c.b)))) ⟨rfl, rfl, rfl, rfl, rfl, rfl, trivial⟩ ⟨hIt2, hmmu2, hstep, M⟩ (by first | omega | (simp only; omega) | (simp; done) | (simp; omega))
    ·intro hco4
     have hall := hend hco4
     obtain ⟨hR4, hU4⟩ := hR.rename (bm := bmm1) hsp1 hne hy0 hT3 hm2 hMv hall
     refine go 0 ?_
     refine x_st [_] (fsC bv (usedL l) { S with E := E3, bm := bmm1 }) rfl rfl rfl sz84 rfl rfl rfl rfl (fs_at M (fun y (hy : y ∈ fsB bf bv (usedL l) { S with E := E3 }) => by simp [hy])) rfl (by rw [fsC_len (S := { S with E := E3 }) hR.hl]; rfl) (fsC_map (S := { S with E := E3 })) ?_
     intro wst4 hwst4
     have M := fs_moved (S := { S with E := E3 }) (M.put 4 rfl hwst4)
     refine ⟨trivial, ?_⟩
     refine go 0 ?_
     refine W.loop (σ := Nat) (fun q => [(0, _), (1, _), (6, _), (7, _), (69, .int .i64 ((q : Nat) : Int))]) (fun q w => q ≤ 8 ∧ Sep w00 ((bal1, .cells [.int .i64 0, .int .i64 0, .int .i64 0, .slice none 0 0, .slice none 0 0].toArray 49 (0, 0)) :: (bbx1, .cells (opC o (.slice pd o.d.length cd)).toArray 52 (0, 0)) :: (fsB bf bv (usedL l) { S with E := E3, bm := bmm1, om := om2, hs := movHs S.hs p (cleanP o.q).1 (16 * q) } ++ (Lb ++ L))) w) (fun q => 8 - q) 0 ⟨rfl, rfl, rfl, rfl, rfl, trivial⟩ ⟨by omega, by rw [Nat.mul_zero, movHs_zero]; exact M⟩ ?_
     rintro q w ⟨hq8, M⟩
     refine cnd 1 ?_ ?_
     ·intro hco6
      refine go 0 ?_
      refine x_call rfl rfl rfl rfl rfl en49 (handles_c (by omega)) ?_
      rintro r_ w_ ⟨rfl, rfl⟩
      refine ⟨trivial, ?_⟩
      refine go 1 ?_
      refine W.loop (σ := Nat) (fun i => [(0, _), (1, _), (6, _), (7, _), (13, _), (69, _), (74, _), (75, _), (76, .int .i64 ((i : Nat) : Int))]) (fun i w => i ≤ 16 ∧ Sep w00 ((bal1, .cells [.int .i64 0, .int .i64 0, .int .i64 0, .slice none 0 0, .slice none 0 0].toArray 49 (0, 0)) :: (bbx1, .cells (opC o (.slice pd o.d.length cd)).toArray 52 (0, 0)) :: (fsB bf bv (usedL l) { S with E := E3, bm := bmm1, om := om2, hs := movHs S.hs p (cleanP o.q).1 (16 * q + i) } ++ (Lb ++ L))) w) (fun i => 16 - i) 0 ⟨rfl, rfl, rfl, rfl, rfl, rfl, rfl, rfl, rfl, trivial⟩ ⟨by omega, M⟩ ?_
      rintro i w ⟨hi16, M⟩
      refine cnd 1 ?_ ?_
      ·intro hco7
       obtain ⟨h, hq⟩ := get_lt (l := S.hs) (q := 16 * q + i) (by rw [hR.hl]; omega)
       have hq2 := movHs_get (x := p) (y := (cleanP o.q).1) hq
       have hfs := fs_at M (fun y (hy : y ∈ fsB bf bv (usedL l) { S with E := E3, bm := bmm1, om := om2, hs := movHs S.hs p (cleanP o.q).1 (16 * q + i) }) => by simp [hy])
       have hml : (movHs S.hs p (cleanP o.q).1 (16 * q + i)).length = 128 := by rw [movHs_len, hR.hl]
       have hrow := (row_sl (S := { S with E := E3, bm := bmm1, om := om2, hs := movHs S.hs p (cleanP o.q).1 (16 * q + i) }) (off := 0 + 3 + q * 32) hml (by omega : q < 8) hfs (by omega)).row (j := i) (l := [strV h.1, .bool h.2]) rfl (flat_drop (m := 2) (e1 := fun h : Hd => [strV h.1, .bool h.2]) (by decide) (fun _ _ => rfl) (row_at (S := { S with E := E3, bm := bmm1, om := om2, hs := movHs S.hs p (cleanP o.q).1 (16 * q + i) }) hq2 (by omega))) (by simp)
       refine go 0 ?_
       refine x_ia i rfl rfl rfl Tryz.underlying116 sz86 rfl rfl rfl (by omega) ?_
       refine x_ldA [_, _] rfl rfl rfl Tryz.underlying86 rfl sz86 rfl rfl hrow ?_
       refine go 1 ?_
       intro bal2 _ M
       refine go 1 ?_
       intro _ M
       refine spl 2 84 ?_ ?_
       ·intro hsp2
        refine go 1 ?_
        refine x_call rfl rfl rfl rfl rfl en106 (under_c) ?_
        rintro r wcall8 ⟨rfl, hncall8⟩
        have M := M.new hncall8
        refine ⟨trivial, ?_⟩
        refine cnd 0 ?_ ?_
        ·intro hco8
         have hul := under_len hco8
         have hmh : movHd p (cleanP o.q).1 h = ((cleanP o.q).1 ++ h.1.drop p.length, h.2) := by unfold movHd; rw [if_pos ⟨hsp2, hco8⟩]
         obtain ⟨dd, hdd⟩ := hR.ho h (List.mem_of_getElem? hq) hsp2
         have hhl : h.1.length ≤ 120 := hR.tr.names _ (List.mem_map.2 ⟨_, hdd, rfl⟩)
         refine go 0 ?_
         refine W.regD (by kernel_rfl) #[0, 0, 0, 0, 0, 16, 0, 64, 240, 504, 1, 1025, 3075, 8191, 16383, 32767] [(0, false), (1, false), (2, false), (3, false), (4, false), (5, false), (6, false), (7, false), (8, false), (9, false), (10, false), (11, false), (12, false), (13, false), (14, false), (15, true)] (by kernel_rfl) ?_
         intro K wD1 hK hwD1
         have M := M.drew hwD1
         refine go 2 ?_
         refine x_sslS p.length rfl rfl rfl Tryz.underlying9 rfl rfl rfl (by omega) ?_
         refine x_catS rfl rfl rfl rfl rfl (by simp; omega) ?_
         refine go 0 ?_
         refine x_iaA q rfl rfl rfl Tryz.underlying88 sz87 rfl rfl rfl (by omega) ?_
         refine x_iaA i rfl rfl rfl Tryz.underlying87 sz86 rfl rfl rfl (by omega) ?_
         refine go 0 ?_
         refine x_st [_] (fsC bv (usedL l) { S with E := E3, bm := bmm1, om := om2, hs := movHs S.hs p (cleanP o.q).1 (16 * q + i + 1) }) rfl rfl rfl sz9 rfl rfl rfl rfl (fs_at M (fun y (hy : y ∈ fsB bf bv (usedL l) { S with E := E3, bm := bmm1, om := om2, hs := movHs S.hs p (cleanP o.q).1 (16 * q + i) }) => by simp [hy])) rfl (by rw [fsC_len (S := { S with E := E3, bm := bmm1, om := om2, hs := movHs S.hs p (cleanP o.q).1 (16 * q + i) }) hml]; exact Nat.ble_eq_true_of_le (by simp only [List.length_cons, List.length_nil]; omega)) (by rw [← movHs_set hq, hmh]; exact fsC_put1 (S := { S with E := E3, bm := bmm1, om := om2, hs := movHs S.hs p (cleanP o.q).1 (16 * q + i) }) hq2 (by omega)) ?_
         intro wst6 hwst6
         have M : Sep w00 ((bal2, _) :: ((bal1, .cells [.int .i64 0, .int .i64 0, .int .i64 0, .slice none 0 0, .slice none 0 0].toArray 49 (0, 0)) :: (bbx1, .cells (opC o (.slice pd o.d.length cd)).toArray 52 (0, 0)) :: (fsB bf bv (usedL l) { S with E := E3, bm := bmm1, om := om2, hs := movHs S.hs p (cleanP o.q).1 (16 * q + i + 1) } ++ (Lb ++ L)))) wst6 := M.put 3 rfl hwst6
         refine pnd ?_
         refine go 0 ?_
         refine x_add _ rfl rfl rfl rfl rfl (wadd (by omega) (by omega)) ?_
         refine go 0 ?_
         exact At.back (i + 1) ⟨rfl, rfl, rfl, rfl, rfl, rfl, rfl, rfl, rfl, trivial⟩ ⟨by omega, M.tail⟩ (by first | omega | (simp only; omega) | (simp; done) | (simp; omega))
        ·intro hco8
         have hmh : movHd p (cleanP o.q).1 h = h := by unfold movHd; rw [if_neg (fun e => by rw [hco8] at e; cases e.2)]
         refine go 0 ?_
         refine x_add _ rfl rfl rfl rfl rfl (wadd (by omega) (by omega)) ?_
         refine go 0 ?_
         exact At.back (i + 1) ⟨rfl, rfl, rfl, rfl, rfl, rfl, rfl, rfl, rfl, trivial⟩ ⟨by omega, by show Sep w00 _ _; rw [show 16 * q + (i + 1) = 16 * q + i + 1 from rfl, movHs_same hq hmh]; exact M.tail⟩ (by first | omega | (simp only; omega) | (simp; done) | (simp; omega))
       ·intro hsp2
        have hmh : movHd p (cleanP o.q).1 h = h := movHd_nil hsp2
        refine go 0 ?_
        refine x_add _ rfl rfl rfl rfl rfl (wadd (by omega) (by omega)) ?_
        refine go 0 ?_
        exact At.back (i + 1) ⟨rfl, rfl, rfl, rfl, rfl, rfl, rfl, rfl, rfl, trivial⟩ ⟨by omega, by show Sep w00 _ _; rw [show 16 * q + (i + 1) = 16 * q + i + 1 from rfl, movHs_same hq hmh]; exact M.tail⟩ (by first | omega | (simp only; omega) | (simp; done) | (simp; omega))
      ·intro hco7
       have hi2 : i = 16 := by omega
       subst hi2
       refine go 0 ?_
       refine x_add _ rfl rfl rfl rfl rfl (wadd (by omega) (by omega)) ?_
       refine go 0 ?_
       exact At.back (q + 1) ⟨rfl, rfl, rfl, rfl, rfl, trivial⟩ ⟨by omega, by rw [show 16 * (q + 1) = 16 * q + 16 by omega]; exact M⟩ (by first | omega | (simp only; omega) | (simp; done) | (simp; omega))
     ·intro hco6
      have hq2 : q = 8 := by omega
      subst hq2
      rw [movHs_all (by rw [hR.hl]; omega), ← hU4] at M
      refine go 2 ?_
      intro _ M
      refine go 1 ?_
      have hst : renameS l hf p o.q = (badS 0, (renameL l p (cleanP o.q).1).1, movH hf p (cleanP o.q).1) := by unfold renameS; rw [if_pos hco1, if_pos hsp1]
      rw [hst]
      exact post_bad hR4 (by rw [fs_mov (S := { S with E := E3, bm := bmm1, om := om2, hs := S.hs.map (movHd p (cleanP o.q).1) })]; exact M.tail.tail) rfl

end Go.Proofs.YtigfbpbnohkokaaGreat

namespace Go.Proofs.YtigfbpbnohkokaaGreat
open Go Go.Fw Go.RowKit Go.Proofs
set_option linter.unusedVariables false
set_option linter.unusedSimpArgs false
set_option maxRecDepth 100000
set_option maxHeartbeats 4000000


theorem nil_byH {bf : Nat} {k : Int} : (nilF (byH bf k)).map (!·) = some (decide (2 ≤ k ∧ k ≤ 5)) := by
 unfold byH
 by_cases h2 : k = 2
 ·subst h2; rfl
 by_cases h3 : k = 3
 ·subst h3; rfl
 by_cases h4 : k = 4
 ·subst h4; rfl
 by_cases h5 : k = 5
 ·subst h5; rfl
 rw [if_neg h2, if_neg h3, if_neg h4, if_neg h5, decide_eq_false (by omega)]; rfl
theorem nil_byP {bf : Nat} {k : Int} : nilF (byP bf k) = some (decide (¬ (6 ≤ k ∧ k ≤ 9))) := by
 unfold byP
 by_cases h2 : k = 6
 ·subst h2; rfl
 by_cases h3 : k = 7
 ·subst h3; rfl
 by_cases h4 : k = 8
 ·subst h4; rfl
 by_cases h5 : k = 9
 ·subst h5; rfl
 rw [if_neg h2, if_neg h3, if_neg h4, if_neg h5, decide_eq_true (by omega)]; rfl
theorem byH_any {w00 : World} {bf a i : Nat} {bv dv : Value} {S : FSt} {base : BaseF} {Lb : List (Nat × Obj)} {l : List Raw} {hf : HF} {h : Hd} {who : Int} {o : OpS} (hR : FR base S l hf) (hB : BaseC w00 Lb bv base) (ha : a < 8) (hi : i < 16) (hq : S.hs[16 * a + i]? = some h) (h0 : h.1 ≠ []) (hwho : who = (a : Int)) (hoh : o.h = (i : Int) + 1) (hk : 2 ≤ o.k ∧ o.k ≤ 5) :
  ∃ g, byH bf o.k = .func (.func g) #[ptr bf] #[] ∧ entered Tryz.prog g = true ∧ ∀ {w0 : World} {L : List (Nat × Obj)}, Sep w00 (fsB bf bv (usedL l) S ++ (Lb ++ L)) w0 → (∀ w X, Sep w00 X w → (∀ y ∈ L, y ∈ X) → BytesAt w dv o.d) → Ret Tryz.prog g #[ptr bf, .pointer (some ⟨bf, 3 + 2 * (16 * a + i), none⟩), .agg (opC o dv).toArray] w0 (PostS base bf bv w00 Lb L (handleS l hf who o)) := by
 have hat : hf who o.h = some h := by rw [hwho, hoh]; exact hR.at_ ha hi hq h0
 unfold handleS
 rw [hat]
 simp only
 by_cases h2 : o.k = 2
 ·rw [if_pos h2, h2]
  exact ⟨_, rfl, en68, fun M hdv => read_c M hR hB ha hi hq h0 hdv⟩
 by_cases h3 : o.k = 3
 ·rw [if_neg h2, if_pos h3, h3]
  exact ⟨_, rfl, en69, fun M hdv => write_c M hR hB ha hi hq h0 hdv⟩
 by_cases h4 : o.k = 4
 ·rw [if_neg h2, if_neg h3, if_pos h4, h4]
  exact ⟨_, rfl, en70, fun M hdv => truncate_c M hR hB ha hi hq h0 hdv⟩
 have h5 : o.k = 5 := by omega
 rw [if_neg h2, if_neg h3, if_neg h4, h5]
 refine ⟨_, rfl, en71, fun M hdv => ?_⟩
 rw [hwho, hoh]
 exact shut_c M hR hB ha hi hq h0 hdv
theorem byP_any {w00 : World} {bf : Nat} {bv dv : Value} {S : FSt} {base : BaseF} {Lb : List (Nat × Obj)} {l : List Raw} {hf : HF} {p : List UInt8} {o : OpS} (hR : FR base S l hf) (hdv : ∃ pd cd, dv = .slice pd o.d.length cd) (hk : 6 ≤ o.k ∧ o.k ≤ 9) :
  ∃ g, byP bf o.k = .func (.func g) #[ptr bf] #[] ∧ entered Tryz.prog g = true ∧ ∀ {w0 : World} {L : List (Nat × Obj)}, Sep w00 (fsB bf bv (usedL l) S ++ (Lb ++ L)) w0 → Ret Tryz.prog g #[ptr bf, strV p, .agg (opC o dv).toArray] w0 (PostS base bf bv w00 Lb L (namedS l hf p o)) := by
 unfold namedS
 by_cases h2 : o.k = 6
 ·rw [if_pos h2, h2]
  exact ⟨_, rfl, en72, fun M => mkdirH_c M hR hdv⟩
 by_cases h3 : o.k = 7
 ·rw [if_neg h2, if_pos h3, h3]
  exact ⟨_, rfl, en73, fun M => removeH_c M hR hdv⟩
 by_cases h4 : o.k = 8
 ·rw [if_neg h2, if_neg h3, if_pos h4, h4]
  exact ⟨_, rfl, en74, fun M => renameH_c M hR hdv⟩
 have h5 : o.k = 9 := by omega
 rw [if_neg h2, if_neg h3, if_neg h4, h5]
 exact ⟨_, rfl, en75, fun M => listH_c M hR hdv⟩


-- (*valise/overlay.FS).Do
theorem do_c {w00 w0 : World} {bf : Nat} {bv dv : Value} {S : FSt} {base : BaseF} {Lb L : List (Nat × Obj)} {l : List Raw} {hf : HF} {who : Int} {o : OpS} (M : Sep w00 (fsB bf bv (usedL l) S ++ (Lb ++ L)) w0) (hR : FR base S l hf) (hB : BaseC w00 Lb bv base) (hdv : ∀ w X, Sep w00 X w → (∀ y ∈ L, y ∈ X) → BytesAt w dv o.d) : Ret Tryz.prog 16 #[ptr bf, .int .i64 who, .agg (opC o dv).toArray] w0 (PostS base bf bv w00 Lb L (doS l hf who o)) := by
 obtain ⟨pd, cd, rfl⟩ := (hdv _ _ M (fun y hy => by simp [hy])).shape
 refine Ret.of_W Tryz.func16 rfl Tryz.ntmps16 rfl ?_
 refine go 1 ?_
 intro _ _ M
 refine go 1 ?_
 intro _ _ M
 refine go 1 ?_
 refine x_ld rfl rfl rfl Tryz.underlying83 rfl rfl (cell_of (fs_at M (fun y (hy : y ∈ fsB bf bv (usedL l) S) => by simp [hy])) rfl) ?_
 refine spl 2 26 ?_ ?_
 ·intro hsp1
  refine go 0 ?_
  refine x_call rfl rfl rfl rfl rfl en40 (fail_c) ?_
  rintro r_ wcall1 ⟨rfl, hncall1⟩
  have M := M.new hncall1
  refine ⟨trivial, ?_⟩
  refine go 1 ?_
  intro _ M
  refine go 1 ?_
  exact post_bad hR M.tail.tail (by unfold doS; rw [if_pos (.inl hsp1)])
 ·intro hsp1
  refine cnd 1 ?_ ?_
  ·intro hco3
   refine go 0 ?_
   refine x_call rfl rfl rfl rfl rfl en40 (fail_c) ?_
   rintro r_ wcall2 ⟨rfl, hncall2⟩
   have M := M.new hncall2
   refine ⟨trivial, ?_⟩
   refine go 1 ?_
   intro _ M
   refine go 1 ?_
   exact post_bad hR M.tail.tail (by unfold doS; rw [if_pos (.inr (.inl (by omega)))])
  ·intro hco3
   have hdw := fun w (X : List (Nat × Obj)) (hX : Sep w00 X w) (hs : ∀ y ∈ L, y ∈ X) => hdv w X hX hs
   refine cnd 2 ?_ ?_
   ·intro hco4
    refine go 1 ?_
    refine x_call rfl rfl rfl rfl rfl en41 (by have hc_ := open_c (a := who.toNat) (o := o) (St.fsi (X := [_, _]) M) hR (by omega) ⟨pd, cd, rfl⟩; rw [Int.toNat_of_nonneg (by omega)] at hc_; exact hc_) ?_
    rintro r_ w9 ⟨S9, Lr, ⟨dv9, lv9, L1, L2, rfl, rfl, hb9, hs9⟩, hR9, M⟩
    have M := St.fso (X := [_, _]) M
    obtain ⟨p91, c91, rfl⟩ := hb9.shape
    obtain ⟨p92, c92, rfl, _⟩ := hs9.shape2 (by decide)
    refine ⟨trivial, ?_⟩
    refine go 1 ?_
    intro _ M
    refine go 1 ?_
    rw [show doS l hf who o = openS l hf who o by unfold doS; rw [if_neg (by omega), if_pos hco4]]
    exact ⟨S9, L1 ++ L2, ⟨_, _, L1, L2, rfl, rfl, hb9, hs9⟩, hR9, M.tail.tail⟩
   ·intro hco4
    refine go 1 ?_
    refine x_call rfl rfl rfl rfl rfl en42 (byHandle_c) ?_
    rintro r_ w_ ⟨rfl, rfl⟩
    refine ⟨trivial, ?_⟩
    refine go 0 ?_
    refine x_nefn (decide (2 ≤ o.k ∧ o.k ≤ 5)) rfl rfl rfl Tryz.underlying107 rfl rfl nil_byH ?_
    refine cnd 0 ?_ ?_
    ·intro hco5
     have hk5 : 2 ≤ o.k ∧ o.k ≤ 5 := by simpa using hco5
     have hdo : doS l hf who o = handleS l hf who o := by unfold doS; rw [if_neg (by omega), if_neg (by omega), if_pos (by omega)]
     refine go 1 ?_
     refine x_call rfl rfl rfl rfl rfl en43 (handle_c (fs_at M (fun y (hy : y ∈ fsB bf bv (usedL l) S) => by simp [hy])) hR.hl) ?_
     rintro r_ w_ ⟨⟨po, rfl, hpo⟩, rfl⟩
     refine ⟨trivial, ?_⟩
     refine cnd 1 ?_ ?_
     ·intro hco6
      have hno : hf who o.h = none := by
       rcases hpo with ⟨h1, _⟩ | ⟨a, i, h, _, _, _, _, _, _, hpe⟩
       ·rw [hR.hh]; exact h1
       ·rw [hpe] at hco6; cases hco6
      refine go 0 ?_
      refine x_call rfl rfl rfl rfl rfl en40 (fail_c) ?_
      rintro r_ wcall6 ⟨rfl, hncall6⟩
      have M := M.new hncall6
      refine ⟨trivial, ?_⟩
      refine go 1 ?_
      intro _ M
      refine go 1 ?_
      rw [hdo]
      exact post_bad hR M.tail.tail (by unfold handleS; rw [hno])
     ·intro hco6
      obtain ⟨a, i, h, hwho, hoh, ha, hi, hq, h0, hpe⟩ : ∃ (a i : Nat) (h : Hd), who = (a : Int) ∧ o.h = (i : Int) + 1 ∧ a < 8 ∧ i < 16 ∧ S.hs[16 * a + i]? = some h ∧ h.1 ≠ [] ∧ po = some ⟨bf, 3 + 2 * (16 * a + i), none⟩ := by
       rcases hpo with ⟨_, h1⟩ | h
       ·rw [h1] at hco6; cases hco6
       ·exact h
      rw [hpe]
      obtain ⟨g, hg, heg, hgc⟩ := byH_any (bf := bf) (dv := .slice pd o.d.length cd) hR hB ha hi hq h0 hwho hoh hk5
      rw [hg, hdo]
      refine go 1 ?_
      refine x_call rfl rfl rfl rfl rfl heg (hgc (St.fsi (X := [_, _]) M) (fun w X hX hs => hdv w X hX (fun y hy => hs y (List.mem_append_right _ hy)))) ?_
      rintro r_ w9 ⟨S9, Lr, ⟨dv9, lv9, L1, L2, rfl, rfl, hb9, hs9⟩, hR9, M⟩
      have M := St.fso (X := [_, _]) M
      obtain ⟨p91, c91, rfl⟩ := hb9.shape
      obtain ⟨p92, c92, rfl, _⟩ := hs9.shape2 (by decide)
      refine ⟨trivial, ?_⟩
      refine go 1 ?_
      intro _ M
      refine go 1 ?_
      exact ⟨S9, L1 ++ L2, ⟨_, _, L1, L2, rfl, rfl, hb9, hs9⟩, hR9, M.tail.tail⟩
    ·intro hco5
     have hk5 : ¬ (2 ≤ o.k ∧ o.k ≤ 5) := by simpa using hco5
     refine go 1 ?_
     refine x_call rfl rfl rfl rfl rfl en44 (byPath_c) ?_
     rintro r_ w_ ⟨rfl, rfl⟩
     refine ⟨trivial, ?_⟩
     refine go 0 ?_
     refine x_eqfn (decide (¬ (6 ≤ o.k ∧ o.k ≤ 9))) rfl rfl rfl Tryz.underlying111 rfl rfl nil_byP ?_
     refine cnd 0 ?_ ?_
     ·intro hco7
      have hk9 : ¬ (6 ≤ o.k ∧ o.k ≤ 9) := by simpa using hco7
      refine go 0 ?_
      refine x_call rfl rfl rfl rfl rfl en40 (fail_c) ?_
      rintro r_ wcall9 ⟨rfl, hncall9⟩
      have M := M.new hncall9
      refine ⟨trivial, ?_⟩
      refine go 1 ?_
      intro _ M
      refine go 1 ?_
      exact post_bad hR M.tail.tail (by unfold doS; rw [if_pos (by omega)])
     ·intro hco7
      have hk9 : 6 ≤ o.k ∧ o.k ≤ 9 := by simpa using hco7
      refine go 1 ?_
      refine x_call rfl rfl rfl rfl rfl en45 (clean_c) ?_
      rintro r wcall10 ⟨rfl, hncall10⟩
      have M := M.new hncall10
      refine ⟨trivial, ?_⟩
      refine cnd 1 ?_ ?_
      ·intro hco8
       refine go 0 ?_
       refine x_call rfl rfl rfl rfl rfl en40 (fail_c) ?_
       rintro r_ wcall11 ⟨rfl, hncall11⟩
       have M := M.new hncall11
       refine ⟨trivial, ?_⟩
       refine go 1 ?_
       intro _ M
       refine go 1 ?_
       exact post_bad hR M.tail.tail (by unfold doS; rw [if_neg (by omega), if_neg (by omega), if_neg (by omega), if_neg hco8])
      ·intro hco8
       obtain ⟨g, hg, heg, hgc⟩ := byP_any (w00 := w00) (Lb := Lb) (bv := bv) (bf := bf) (p := (cleanP o.p).1) (dv := .slice pd o.d.length cd) hR ⟨pd, cd, rfl⟩ hk9
       rw [hg, show doS l hf who o = namedS l hf (cleanP o.p).1 o by unfold doS; rw [if_neg (by omega), if_neg (by omega), if_neg (by omega), if_pos hco8]]
       refine go 1 ?_
       refine x_call rfl rfl rfl rfl rfl heg (hgc (St.fsi (X := [_, _]) M)) ?_
       rintro r_ w9 ⟨S9, Lr, ⟨dv9, lv9, L1, L2, rfl, rfl, hb9, hs9⟩, hR9, M⟩
       have M := St.fso (X := [_, _]) M
       obtain ⟨p91, c91, rfl⟩ := hb9.shape
       obtain ⟨p92, c92, rfl, _⟩ := hs9.shape2 (by decide)
       refine ⟨trivial, ?_⟩
       refine go 1 ?_
       intro _ M
       refine go 1 ?_
       exact ⟨S9, L1 ++ L2, ⟨_, _, L1, L2, rfl, rfl, hb9, hs9⟩, hR9, M.tail.tail⟩

end Go.Proofs.YtigfbpbnohkokaaGreat

namespace Go.Proofs.YtigfbpbnohkokaaGreat
open Go Go.Fw Go.RowKit
set_option linter.unusedVariables false
set_option linter.unusedSimpArgs false

def intCs (l : List Nat) : List Value := l.map fun (n : Nat) => .int .i64 (n : Int)
abbrev IntsO (L : List (Nat × Obj)) (v : Value) (l : List Nat) : Prop := OwL L v 1 l.length (intCs l)
theorem intCs_one (l : List Nat) : ∀ u ∈ intCs l, u.oneCell' = true := by
 intro u hu; obtain ⟨x, _, rfl⟩ := List.mem_map.1 hu; rfl
theorem intsO_snoc {L : List (Nat × Obj)} {v : Value} {l : List Nat} {n : Nat} (h : OwL L v 1 (l.length + 1) (intCs l ++ [.int .i64 (n : Int)])) : IntsO L v (l ++ [n]) := by
 have e : intCs (l ++ [n]) = intCs l ++ [.int .i64 (n : Int)] := by simp [intCs]
 show OwL L v 1 (l ++ [n]).length (intCs (l ++ [n]))
 rw [e, List.length_append]; exact h
/-- A client's open handles, up to one. -/
def openN (hf : HF) (who : Int) (n : Nat) : List Nat := ((List.range n).filter fun (i : Nat) => (hf who ((i : Int) + 1)).isSome).map (· + 1)
def openL (hf : HF) (who : Int) : List Nat := openN hf who 16
theorem openN_len (hf : HF) (who : Int) (n : Nat) : (openN hf who n).length ≤ n := by
 unfold openN
 rw [List.length_map]
 exact Nat.le_trans (List.length_filter_le _ _) (by simp)
theorem openN_yes {hf : HF} {who : Int} {n : Nat} (h : (hf who ((n : Int) + 1)).isSome = true) : openN hf who (n + 1) = openN hf who n ++ [n + 1] := by
 unfold openN
 rw [List.range_succ, List.filter_append, List.map_append, List.filter_cons_of_pos (p := fun (i : Nat) => (hf who ((i : Int) + 1)).isSome) (by simpa using h)]; rfl
theorem openN_no {hf : HF} {who : Int} {n : Nat} (h : (hf who ((n : Int) + 1)).isSome = false) : openN hf who (n + 1) = openN hf who n := by
 unfold openN
 rw [List.range_succ, List.filter_append, List.map_append, List.filter_cons_of_neg (p := fun (i : Nat) => (hf who ((i : Int) + 1)).isSome) (by simp [h])]; simp
theorem openL_out {hs : List Hd} {who : Int} (h : who < 0 ∨ 8 ≤ who) : openL (hAt hs) who = [] := by
 unfold openL openN
 rw [List.map_eq_nil_iff, List.filter_eq_nil_iff]
 intro i _
 rw [hAt_out (by omega)]; simp
/-- A handle's file. -/
def fileH (hf : HF) (who n : Int) : List UInt8 := match hf who n with | some v => v.1 | none => []
/-- Rows, of which one has other bytes. -/
theorem fCs_set {fs : List (Raw × Value)} {rest : List Value} {i : Nat} {f : Raw × Value} {v : Value} {d : List UInt8} (hx : fs[i]? = some f) : (fCs fs ++ rest).take (i * 3 + 2) ++ [v] ++ (fCs fs ++ rest).drop (i * 3 + 2 + 1) = fCs (fs.set i ((f.1.1, f.1.2.1, d), v)) ++ rest := by
 have hl : i < fs.length := (List.getElem?_eq_some_iff.1 hx).1
 have e1 : fCs fs = (fCs (fs.take i) ++ [strV f.1.1, .bool f.1.2.1]) ++ (f.2 :: fCs (fs.drop (i + 1))) := by
  conv => lhs; rw [split_at hx]
  simp [fCs]
 have e2 : fCs (fs.set i ((f.1.1, f.1.2.1, d), v)) = (fCs (fs.take i) ++ [strV f.1.1, .bool f.1.2.1]) ++ (v :: fCs (fs.drop (i + 1))) := by
  rw [set_at hx]
  simp [fCs]
 have hA : (fCs (fs.take i) ++ [strV f.1.1, .bool f.1.2.1]).length = i * 3 + 2 := by
  rw [List.length_append, fCs_len, List.length_take]
  simp only [List.length_cons, List.length_nil]; omega
 rw [e1, e2, List.append_assoc, List.append_assoc, tk_app hA, dr_app 1 hA]
 simp
section
variable {base : BaseF} {S : FSt} {l : List Raw} {hf : HF} {i : Nat} {x : Raw}
theorem bare_row (hx : l[i]? = some x) : l.take i ++ bareL (l.drop i) = l.take i ++ bareR x :: bareL (l.drop (i + 1)) := by
 obtain ⟨hl, rfl⟩ := List.getElem?_eq_some_iff.1 hx
 rw [List.drop_eq_getElem_cons hl]; rfl
theorem bare_next (hx : l[i]? = some x) (hd : bareR x = x) : l.take i ++ bareL (l.drop i) = l.take (i + 1) ++ bareL (l.drop (i + 1)) := by
 rw [bare_row hx, hd, take_snoc hx]; simp
theorem bare_set' (hx : l[i]? = some x) : (l.take i ++ bareL (l.drop i)).set i (x.1, x.2.1, x.2.2) = l.take (i + 1) ++ bareL (l.drop (i + 1)) := by
 have hl : i < l.length := (List.getElem?_eq_some_iff.1 hx).1
 rw [bare_row hx, take_snoc hx]
 have : (l.take i).length = i := by rw [List.length_take]; omega
 rw [List.set_append_right _ _ (by omega), this, Nat.sub_self]
 simp
theorem bare_get (hx : l[i]? = some x) : (l.take i ++ bareL (l.drop i))[i]? = some (bareR x) := by
 have hl : i < l.length := (List.getElem?_eq_some_iff.1 hx).1
 rw [bare_row hx, List.getElem?_append_right (by rw [List.length_take]; omega), List.length_take, Nat.min_eq_left (by omega), Nat.sub_self]; rfl
/-- A row that has no bytes of its own. -/
theorem FR.norow (h : FR base S l hf) (hx : x ∈ l) (hg : cget S.C x.1 = Option.none) : bareR x = x := by
 obtain ⟨a, b, d⟩ := x
 cases b with
 | true => rw [show d = [] from h.dd _ hx rfl]; rfl
 | false => exact absurd hx (h.no hg d)
theorem FR.yesrow {c : Con} (h : FR base S l hf) (hx : x ∈ l) (hg : cget S.C x.1 = some c) : c ∈ S.C ∧ x = (x.1, false, c.d) := by
 obtain ⟨hc, hk⟩ := cget_mem hg
 have := h.row hc
 rw [hk] at this
 exact ⟨hc, names_inj h.names hx this rfl⟩
end
end Go.Proofs.YtigfbpbnohkokaaGreat

namespace Go.Proofs.YtigfbpbnohkokaaGreat
open Go Go.Fw Go.RowKit Go.Proofs
set_option linter.unusedVariables false
set_option linter.unusedSimpArgs false
set_option maxRecDepth 100000
set_option maxHeartbeats 4000000

-- (*valise/overlay.FS).Used
theorem used_c {w0 : World} {bf u : Nat} {bv : Value} {S : FSt} (hb : w0.heap[bf]? = some (.cells (fsC bv u S).toArray 90 (0, 0))) (hl : S.hs.length = 128) : Ret Tryz.prog 18 #[ptr bf] w0 fun r w' => r = .int .i64 (u : Int) ∧ w0 = w' := by
 refine Ret.of_W Tryz.func18 rfl Tryz.ntmps18 rfl ?_
 refine go 1 ?_
 refine x_ld rfl rfl rfl Tryz.underlying3 rfl rfl (cell_of hb (fsC_used hl)) ?_
 refine go 1 ?_
 exact ⟨rfl, rfl⟩

-- (*valise/overlay.FS).File
theorem ffile_c {w0 : World} {bf u : Nat} {bv : Value} {S : FSt} {who n : Int} (hb : w0.heap[bf]? = some (.cells (fsC bv u S).toArray 90 (0, 0))) (hl : S.hs.length = 128) : Ret Tryz.prog 21 #[ptr bf, .int .i64 who, .int .i64 n] w0 fun r w' => r = strV (fileH (hAt S.hs) who n) ∧ w0 = w' := by
 refine Ret.of_W Tryz.func21 rfl Tryz.ntmps21 rfl ?_
 refine go 1 ?_
 refine x_call rfl rfl rfl rfl rfl en43 (handle_c hb hl) ?_
 rintro r_ w_ ⟨⟨po, rfl, hpo⟩, rfl⟩
 refine ⟨trivial, ?_⟩
 refine cnd 1 ?_ ?_
 ·intro hco2
  obtain ⟨a, i, h, hwho, hoh, ha, hi, hq, h0, hpe⟩ : ∃ (a i : Nat) (h : Hd), who = (a : Int) ∧ n = (i : Int) + 1 ∧ a < 8 ∧ i < 16 ∧ S.hs[16 * a + i]? = some h ∧ h.1 ≠ [] ∧ po = some ⟨bf, 3 + 2 * (16 * a + i), none⟩ := by
   rcases hpo with ⟨_, h1⟩ | h
   ·rw [h1] at hco2; simp at hco2
   ·exact h
  rw [hpe]
  refine go 0 ?_
  refine x_ld rfl rfl rfl Tryz.underlying9 rfl rfl (cell_of hb (fsC_h0 hq (by omega))) ?_
  refine go 1 ?_
  exact ⟨by unfold fileH; rw [hwho, hoh, hAt_some ha hi hq h0], rfl⟩
 ·intro hco2
  have hno : hAt S.hs who n = none := by
   rcases hpo with ⟨h1, _⟩ | ⟨a, i, h, _, _, _, _, _, _, hpe⟩
   ·exact h1
   ·rw [hpe] at hco2; simp at hco2
  refine go 1 ?_
  exact ⟨by unfold fileH; rw [hno]; rfl, rfl⟩

-- (*valise/overlay.FS).Handles
theorem hdls_c {w0 : World} {bf u : Nat} {bv : Value} {S : FSt} {who : Int} (hb : w0.heap[bf]? = some (.cells (fsC bv u S).toArray 90 (0, 0))) (hl : S.hs.length = 128) : Ret Tryz.prog 22 #[ptr bf, .int .i64 who] w0 fun r w' => ∃ Lr, IntsO Lr r (openL (hAt S.hs) who) ∧ Sep w0 Lr w' := by
 have M : Sep w0 [] w0 := St.nil w0
 refine Ret.of_W Tryz.func22 rfl Tryz.ntmps22 rfl ?_
 refine spl 2 14 ?_ ?_
 ·intro hsp1
  refine go 1 ?_
  rw [openL_out (.inl hsp1)]; exact ⟨[], OwL.nil, M⟩
 ·intro hsp1
  refine cnd 1 ?_ ?_
  ·intro hco2
   refine go 1 ?_
   rw [openL_out (.inr (by omega))]; exact ⟨[], OwL.nil, M⟩
  ·intro hco2
   obtain ⟨a, hwa⟩ : ∃ a : Nat, who = (a : Int) := ⟨who.toNat, by omega⟩
   have ha : a < 8 := by omega
   refine go 0 ?_
   refine x_call rfl rfl rfl rfl rfl en49 (by have hc_ := handles_c (w0 := w0) (bf := bf) (who := a) (by omega); rw [← hwa] at hc_; exact hc_) ?_
   rintro r_ w_ ⟨rfl, rfl⟩
   refine ⟨trivial, ?_⟩
   refine go 1 ?_
   refine W.loop (σ := Nat × Value × List (Nat × Obj)) (fun q => [(5, q.2.1), (20, _), (21, _), (22, .int .i64 ((q.1 : Nat) : Int))]) (fun q w => q.1 ≤ 16 ∧ IntsO q.2.2 q.2.1 (openN (hAt S.hs) who q.1) ∧ Sep w0 q.2.2 w) (fun q => 16 - q.1) (0, .slice none 0 0, []) ⟨rfl, rfl, rfl, rfl, trivial⟩ ⟨by omega, OwL.nil, M⟩ ?_
   rintro ⟨i, v, Lo⟩ w ⟨hi16, ho, M⟩
   simp only at hi16 ho M
   have hlen := openN_len (hAt S.hs) who i
   obtain ⟨pv, cv, rfl⟩ := ho.shape
   refine cnd 1 ?_ ?_
   ·intro hco3
    obtain ⟨h, hq⟩ := get_lt (l := S.hs) (q := 16 * a + i) (by rw [hl]; omega)
    have hrow := (row_sl (off := 0 + 3 + a * 32) hl ha (New.keep M.frm hb) (by omega)).row (j := i) (l := [strV h.1, .bool h.2]) rfl (flat_drop (m := 2) (e1 := fun h : Hd => [strV h.1, .bool h.2]) (by decide) (fun _ _ => rfl) (row_at hq (by omega))) (by simp)
    refine go 0 ?_
    refine x_ia i rfl rfl rfl Tryz.underlying116 sz86 rfl rfl rfl (by omega) ?_
    refine x_ldA [_, _] rfl rfl rfl Tryz.underlying86 rfl sz86 rfl rfl hrow ?_
    refine go 1 ?_
    intro _ _ M
    refine go 1 ?_
    intro _ M
    refine cnd 2 ?_ ?_
    ·intro hco4
     have hsome : (hAt S.hs who ((i : Int) + 1)).isSome = true := by rw [hwa, hAt_some ha (by omega) hq hco4]; rfl
     refine go 0 ?_
     refine x_add ((i + 1 : Nat) : Int) rfl rfl rfl rfl rfl (by rw [wadd (by omega) (by omega)]; omega) ?_
     refine x_bs1 (cs := [_]) rfl rfl rfl Tryz.underlying61 sz3 ze3 (Z := [_]) rfl rfl (by decide) (by decide) rfl rfl rfl ?_
     intro bbs1 wbs1 hbbs1 hwbs1
     have M0 := M.acons hbbs1 hwbs1
     have hslbs1 : Sl wbs1 (.slice (some ⟨bbs1, 0, none⟩) 1 1) 1 1 [.int .i64 ((i + 1 : Nat) : Int)] := .inr ⟨bbs1, 0, 1, _, _, _, rfl, by omega, M0.at_ 0 rfl, rfl, rfl⟩
     have M := M0.tail
     refine ⟨trivial, ?_⟩
     have M : Sep w0 (Lo ++ []) wbs1 := by rw [List.append_nil]; exact M.tail
     refine x_apL rfl rfl rfl rfl Tryz.underlying61 sz3 ze3 rfl by3 rfl rfl ho M (intCs_one _) (hslbs1.src Tryz.underlying61 (by simp [Value.oneCell'])) (by omega) (by decide) (by omega) ?_
     intro Lo2 v6 w6 how M
     refine ⟨trivial, ?_⟩
     refine go 0 ?_
     refine x_add _ rfl rfl rfl rfl rfl (wadd (by omega) (by omega)) ?_
     refine go 0 ?_
     exact At.back ((i + 1, v6, Lo2)) ⟨rfl, rfl, rfl, rfl, trivial⟩ ⟨by simp only; omega, by simp only; rw [openN_yes hsome]; exact intsO_snoc how, by simpa using M⟩ (by first | omega | (simp only; omega) | (simp; done) | (simp; omega))
    ·intro hco4
     have hsome : (hAt S.hs who ((i : Int) + 1)).isSome = false := by rw [hwa, hAt_nil ha (by omega) hq hco4]; rfl
     refine go 0 ?_
     refine x_add _ rfl rfl rfl rfl rfl (wadd (by omega) (by omega)) ?_
     refine go 0 ?_
     exact At.back ((i + 1, _, Lo)) ⟨rfl, rfl, rfl, rfl, trivial⟩ ⟨by simp only; omega, by simp only; rw [openN_no hsome]; exact ho, M.tail⟩ (by first | omega | (simp only; omega) | (simp; done) | (simp; omega))
   ·intro hco3
    refine go 1 ?_
    have hi2 : i = 16 := by omega
    subst hi2
    exact ⟨Lo, ho, M⟩

end Go.Proofs.YtigfbpbnohkokaaGreat

namespace Go.Proofs.YtigfbpbnohkokaaGreat
open Go Go.Fw Go.RowKit Go.Proofs
set_option linter.unusedVariables false
set_option linter.unusedSimpArgs false
set_option maxRecDepth 100000
set_option maxHeartbeats 4000000

-- (*valise/overlay.FS).Files
theorem files19_c {w00 w0 : World} {bf : Nat} {bv : Value} {S : FSt} {base : BaseF} {Lb L : List (Nat × Obj)} {l : List Raw} {hf : HF} (M : Sep w00 (fsB bf bv (usedL l) S ++ (Lb ++ L)) w0) (hR : FR base S l hf) (hB : BaseC w00 Lb bv base) : Ret Tryz.prog 17 #[ptr bf] w0 fun r w' => ∃ Lr, FilesO Lr r l ∧ Sep w00 (fsB bf bv (usedL l) S ++ (Lb ++ (L ++ Lr))) w' := by
 have hll : l.length ≤ 128 := by have := hR.tr.le; rwa [bare_len] at this
 refine Ret.of_W Tryz.func17 rfl Tryz.ntmps17 rfl ?_
 refine go 1 ?_
 refine x_ld rfl rfl rfl Tryz.underlying83 rfl rfl (cell_of (fs_at M (fun y (hy : y ∈ fsB bf bv (usedL l) S) => by simp [hy])) rfl) ?_
 refine go 1 ?_
 refine x_ld rfl rfl rfl Tryz.underlying83 rfl rfl (cell_of (fs_at M (fun y (hy : y ∈ fsB bf bv (usedL l) S) => by simp [hy])) rfl) ?_
 refine x_call rfl rfl rfl rfl rfl en46 (files_r (St.tri (X := []) M) hR.tr) ?_
 rintro r_ w1 ⟨Lr, hl1, M⟩
 have M : Sep w00 (fsB bf bv (usedL l) S ++ (Lb ++ (L ++ Lr))) w1 := St.tro2 (X := []) M
 obtain ⟨fs0, Lo0, Ld0, hm0, rfl, how0, hdat0⟩ := hl1
 obtain ⟨pv, cv, rfl⟩ := how0.shape
 have hfl0 : fs0.length = l.length := by have := congrArg List.length hm0; simpa [bareL] using this
 refine ⟨trivial, ?_⟩
 refine go 1 ?_
 refine W.loop (σ := Nat × List (Raw × Value) × List (Nat × Obj) × List (Nat × Obj)) (fun q => [(0, _), (3, _), (21, _), (22, _), (23, .int .i64 ((q.1 : Nat) : Int))]) (fun q w => q.1 ≤ l.length ∧ OwL q.2.2.1 (.slice pv fs0.length cv) 3 q.2.1.length (fCs q.2.1) ∧ q.2.1.map (·.1) = l.take q.1 ++ bareL (l.drop q.1) ∧ (∀ f ∈ q.2.1, SlL q.2.2.2 f.2 1 f.1.2.2.length (byteCs f.1.2.2) ∧ f.2.oneCell' = true) ∧ Sep w00 (fsB bf bv (usedL l) S ++ (Lb ++ (L ++ (q.2.2.1 ++ q.2.2.2)))) w) (fun q => l.length - q.1) (0, fs0, Lo0, Ld0) ⟨rfl, rfl, rfl, rfl, rfl, trivial⟩ ⟨Nat.zero_le _, how0, by simpa using hm0, hdat0, M⟩ ?_
 rintro ⟨i, fs, Lo, Ld⟩ w ⟨hi, how, hmap, hdat, M⟩
 simp only at hi how hmap hdat M
 have hfl : fs.length = l.length := by have := congrArg List.length hmap; simp [bareL] at this; omega
 refine cnd 1 ?_ ?_
 ·intro hco2
  obtain ⟨x, hx⟩ := get_lt (l := l) (q := i) (by omega)
  have hxl := List.mem_of_getElem? hx
  obtain ⟨f, hfx⟩ := get_lt (l := fs) (q := i) (by omega)
  have hfm := List.mem_of_getElem? hfx
  have hf1 : f.1 = bareR x := by
   have h1 := congrArg (fun z : List Raw => z[i]?) hmap
   simp only [List.getElem?_map, hfx, Option.map_some, bare_get hx, Option.some.injEq] at h1
   exact h1
  obtain ⟨bo, cap, rest, T, hv, hLo, h3, h4⟩ : ∃ bo cap rest T, Value.slice pv fs0.length cv = .slice (some ⟨bo, 0, none⟩) fs.length cap ∧ Lo = [(bo, .cells (fCs fs ++ rest).toArray T (0, 0))] ∧ (fCs fs).length = fs.length * 3 ∧ (fCs fs ++ rest).length = cap * 3 := by
   rcases how with ⟨_, h, _⟩ | h
   ·omega
   ·exact h
  obtain ⟨rfl, rfl⟩ : pv = some ⟨bo, 0, none⟩ ∧ cv = cap := by simp only [Value.slice.injEq] at hv; exact ⟨hv.1, hv.2.2⟩
  subst hLo
  obtain ⟨hsl2, _⟩ := hdat f hfm
  rw [hf1] at hsl2
  obtain ⟨p2, c2, hf2⟩ := hsl2.shape
  have hfe : f = ((x.1, x.2.1, []), .slice p2 0 c2) := Prod.ext hf1 hf2
  have hrow := ((how.sl (by decide)).get (fun y hy => M.get (List.mem_append_right _ (List.mem_append_right _ (List.mem_append_right _ (List.mem_append_left _ hy)))))).row (j := i) (b := bo) (off := 0) (cap := cv) (l := [strV x.1, .bool x.2.1, .slice p2 0 c2]) (by rw [hfl0, hfl]) (by have := flat_drop (m := 3) (e1 := fun f : Raw × Value => [strV f.1.1, .bool f.1.2.1, f.2]) (by decide) (fun _ _ => rfl) hfx; rw [hfe] at this; exact this) (by simp)
  refine go 0 ?_
  refine x_ia i rfl rfl rfl Tryz.underlying24 sz29 rfl rfl rfl (by omega) ?_
  refine x_ldA [_, _, _] rfl rfl rfl Tryz.underlying29 rfl sz29 rfl rfl hrow ?_
  refine go 1 ?_
  intro bal1 _ M
  refine go 0 ?_
  refine x_st [_, _, _] _ rfl rfl rfl sz29 rfl rfl rfl rfl (by first | exact M.at_ 0 rfl | exact M.at_ 1 rfl | exact M.at_ 2 rfl | exact M.at_ 3 rfl | exact M.at_ 4 rfl | exact M.at_ 5 rfl | exact M.at_ 6 rfl | exact M.at_ 7 rfl) rfl rfl rfl ?_
  intro wst1 hwst1
  have M : Sep w00 ((bal1, .cells [strV x.1, .bool x.2.1, .slice p2 0 c2].toArray 29 (0, 0)) :: (fsB bf bv (usedL l) S ++ (Lb ++ (L ++ ([(bo, .cells (fCs fs ++ rest).toArray T (0, 0))] ++ Ld))))) wst1 := M.put 0 rfl hwst1
  refine ⟨trivial, ?_⟩
  refine go 0 ?_
  refine W.regD (by kernel_rfl) #[0, 1, 3, 7, 0, 16, 63, 127] [(0, false), (1, false), (2, false), (3, false), (4, false), (5, false), (6, false), (7, false)] (by kernel_rfl) ?_
  intro K wD1 hK hwD1
  have M := M.drew hwD1
  refine go 0 ?_
  refine x_ld rfl rfl rfl Tryz.underlying84 rfl rfl (cell_of (fs_at M (fun y (hy : y ∈ fsB bf bv (usedL l) S) => by simp [hy])) rfl) ?_
  refine go 1 ?_
  refine x_lk1 (enc := strV) x.1 rfl rfl rfl (strKey Tryz.underlying9) Tryz.underlying84 ze102 rfl rfl ⟨S.om, cmap S.C, M.get (by simp [fsB]), hR.mp, rfl⟩ ?_
  rw [cmap_getD]
  refine cnd 1 ?_ ?_
  ·intro hco3
   obtain ⟨c, hg⟩ : ∃ c, cget S.C x.1 = some c := by
    cases hg : cget S.C x.1 with
    | none => unfold cptr at hco3; rw [hg] at hco3; simp at hco3
    | some c => exact ⟨c, rfl⟩
   obtain ⟨hc, hxe⟩ := hR.yesrow hxl hg
   have hOKc := hR.ok c hc
   have hcl := hOKc.le
   have hcp : cptr S.C x.1 = some ⟨c.b, 0, none⟩ := by unfold cptr; rw [hg]; rfl
   rw [hcp]
   refine go 0 ?_
   refine x_call rfl rfl rfl rfl rfl en48 (length_c (con_at M (fun y (hy : y ∈ fsB bf bv (usedL l) S) => by simp [hy]) hc) hOKc) ?_
   rintro r_ w_ ⟨rfl, rfl⟩
   refine ⟨trivial, ?_⟩
   refine x_call rfl rfl rfl rfl rfl en47 (bytes_c (a := 0) (n := c.d.length) (St.fsi (X := [_]) M) hc hOKc hB (by omega)) ?_
   rintro v3 w3 ⟨L3, hb3, M⟩
   have M := St.fso (X := [_]) M
   rw [List.drop_zero, List.take_length] at hb3
   obtain ⟨p3, c3, rfl⟩ := hb3.shape
   have M : Sep w00 ((bo, .cells (fCs fs ++ rest).toArray T (0, 0)) :: (bal1, .cells [strV x.1, .bool x.2.1, .slice p2 0 c2].toArray 29 (0, 0)) :: (fsB bf bv (usedL l) S ++ (Lb ++ (L ++ (Ld ++ L3))))) w3 := M.perm (perm_c fun p => by simp only [List.countP_append, List.countP_cons, List.countP_nil]; omega)
   refine ⟨trivial, ?_⟩
   refine x_ia i rfl rfl rfl Tryz.underlying24 sz29 rfl rfl rfl (by omega) ?_
   refine go 0 ?_
   refine x_st [_] (fCs (fs.set i ((x.1, x.2.1, c.d), .slice p3 c.d.length c3)) ++ rest) rfl rfl rfl sz27 rfl rfl rfl rfl (M.at_ 0 rfl) rfl (by rw [List.length_append, h3]; exact Nat.ble_eq_true_of_le (by simp only [List.length_cons, List.length_nil]; omega)) (by rw [Nat.zero_add]; have := fCs_set (rest := rest) (v := .slice p3 c.d.length c3) (d := c.d) hfx; rw [hfe] at this; exact this) ?_
   intro wst2 hwst2
   have M : Sep w00 ((bo, .cells (fCs (fs.set i ((x.1, x.2.1, c.d), .slice p3 c.d.length c3)) ++ rest).toArray T (0, 0)) :: (bal1, .cells [strV x.1, .bool x.2.1, .slice p2 0 c2].toArray 29 (0, 0)) :: (fsB bf bv (usedL l) S ++ (Lb ++ (L ++ (Ld ++ L3))))) wst2 := M.put 0 rfl hwst2
   refine ⟨trivial, ?_⟩
   refine go 0 ?_
   refine x_add _ rfl rfl rfl rfl rfl (wadd (by omega) (by omega)) ?_
   refine go 0 ?_
   exact At.back ((i + 1, (fs.set i ((x.1, x.2.1, c.d), .slice p3 c.d.length c3)), [(bo, .cells (fCs (fs.set i ((x.1, x.2.1, c.d), .slice p3 c.d.length c3)) ++ rest).toArray T (0, 0))], Ld ++ L3)) ⟨rfl, rfl, rfl, rfl, rfl, trivial⟩ ⟨by simp only; omega, .inr ⟨bo, cv, rest, T, by simp only [List.length_set]; exact hv, rfl, by simp only [List.length_set]; rw [fCs_len, List.length_set], by rw [List.length_append, fCs_len, List.length_set]; rw [List.length_append, h3] at h4; exact h4⟩, by simp only; rw [List.map_set, hmap, show ((x.1, x.2.1, c.d) : Raw) = (x.1, x.2.1, x.2.2) by rw [hxe], bare_set' hx], fun g hg => by
    rcases List.mem_or_eq_of_mem_set hg with hg | rfl
    ·exact ⟨(hdat g hg).1.mono (fun y hy => List.mem_append_left _ hy), (hdat g hg).2⟩
    ·exact ⟨(OwL.sl hb3 (by decide)).mono (fun y hy => List.mem_append_right _ hy), rfl⟩, (M.perm (List.Perm.swap _ _ _)).tail.perm (perm_c fun p => by simp only [List.countP_append, List.countP_cons, List.countP_nil]; omega)⟩ (by first | omega | (simp only; omega) | (simp; done) | (simp; omega))
  ·intro hco3
   have hg : cget S.C x.1 = none := by
    cases hg : cget S.C x.1 with
    | none => rfl
    | some c => unfold cptr at hco3; rw [hg] at hco3; simp at hco3
   refine go 0 ?_
   refine x_add _ rfl rfl rfl rfl rfl (wadd (by omega) (by omega)) ?_
   refine go 0 ?_
   exact At.back ((i + 1, fs, [(bo, .cells (fCs fs ++ rest).toArray T (0, 0))], Ld)) ⟨rfl, rfl, rfl, rfl, rfl, trivial⟩ ⟨by simp only; omega, how, by simp only; rw [hmap, bare_next hx (hR.norow hxl hg)], hdat, M.tail⟩ (by first | omega | (simp only; omega) | (simp; done) | (simp; omega))
 ·intro hco2
  refine go 1 ?_
  have hi2 : i = l.length := by omega
  subst hi2
  rw [List.take_length, List.drop_length] at hmap
  exact ⟨Lo ++ Ld, ⟨fs, Lo, Ld, by rw [hmap]; simp [bareL], rfl, how, hdat⟩, M⟩

end Go.Proofs.YtigfbpbnohkokaaGreat

namespace Go.Proofs.YtigfbpbnohkokaaGreat
open Go Go.Fw Go.RowKit
set_option linter.unusedVariables false
set_option linter.unusedSimpArgs false

abbrev Mt := List UInt8 × Bool × Int
def mCs (ml : List Mt) : List Value := ml.flatMap fun m => [strV m.1, .bool m.2.1, .int .i64 m.2.2]
theorem mCs_one (ml : List Mt) : ∀ u ∈ mCs ml, u.oneCell' = true := by
 intro u hu
 obtain ⟨m, _, hu⟩ := List.mem_flatMap.1 hu
 simp only [List.mem_cons, List.not_mem_nil, or_false] at hu
 rcases hu with rfl | rfl | rfl <;> rfl
def MetasAt (w : World) (v : Value) (ml : List Mt) : Prop := Sg w v 3 ml.length (mCs ml)
def badM (m : Mt) : Bool := decide (m.2.2 < 0) || (m.2.1 && decide (m.2.2 ≠ 0))
def metaR (x : Raw) : Mt := (x.1, x.2.1, (x.2.2.length : Int))
def mRaw (m : Mt) : Raw := (m.1, m.2.1, [])
noncomputable def newS (l : List Raw) : List Raw × Int := if l.any (fun x => decide (65536 < x.2.2.length)) = true then ([], 3) else if (ofL (bareL l)).2 ≠ 0 then ([], (ofL (bareL l)).2) else if 262144 < usedL l then ([], 7) else ((ofL l).1, 0)
section
variable {w w1 : World} {v : Value} {ml : List Mt} {p : Option Addr} {b off len cap j : Nat} {m : Mt}
theorem MetasAt.new (h : MetasAt w v ml) (hn : New w w1) : MetasAt w1 v ml := Sg.new h hn
theorem MetasAt.blk (h : MetasAt w (.slice p len cap) ml) (hj : j < ml.length) : ∃ b off, p = some ⟨b, off, none⟩ ∧ len = ml.length := Sg.blk (j := j) h hj
theorem MetasAt.row (h : MetasAt w (.slice (some ⟨b, off, none⟩) len cap) ml) (hx : ml[j]? = some m) : RowAt w b (off + j * 3) [strV m.1, .bool m.2.1, .int .i64 m.2.2] := by
 have hj : j < ml.length := (List.getElem?_eq_some_iff.1 hx).1
 obtain ⟨b', off', h6, h7⟩ := MetasAt.blk h hj
 cases h6; subst h7
 exact (Sg.sl h (by omega)).row (j := j) (l := [strV m.1, .bool m.2.1, .int .i64 m.2.2]) rfl (flat_drop (m := 3) (e1 := fun m : Mt => [strV m.1, .bool m.2.1, .int .i64 m.2.2]) (by decide) (fun _ _ => rfl) hx) (by simp)
end
section
variable {l : List Raw} {x : Raw}
def OKd (l : List Raw) : Prop := ∀ x ∈ l, x.2.2.length ≤ 65536 ∧ (x.2.1 = true → x.2.2 = [])
theorem bare_single (h1 : x.2.2.length ≤ 65536) (h2 : x.2.1 = true → x.2.2 = []) : singleR (bareR x) = singleR x := by
 unfold singleR
 show (if splitE x.1 = 0 ∧ splitN x.1 ≠ [] then (if x.2.1 = true ∧ ([] : List UInt8) ≠ [] then (16 : Int) else if 65536 < ([] : List UInt8).length then 3 else 0) else 8) = _
 split
 ·rw [if_neg (fun h => h.2 rfl), if_neg (by simp), if_neg (fun h => h.2 (h2 h.1)), if_neg (by omega)]
 ·rfl
theorem bare_first (h : OKd l) : firstR (bareL l) = firstR l := by
 unfold firstR bareL
 have : ∀ {m : List Raw}, OKd m → (m.map bareR).find? (fun x => decide (singleR x ≠ 0)) = (m.find? (fun x => decide (singleR x ≠ 0))).map bareR := by
  intro m
  induction m with
  | nil => intro _; rfl
  | cons y m ih =>
   intro hm
   have hy := hm y List.mem_cons_self
   have ih := ih (fun z hz => hm z (List.mem_cons_of_mem _ hz))
   rw [List.map_cons, List.find?_cons, List.find?_cons, bare_single hy.1 hy.2]
   split
   ·rfl
   ·exact ih
 rw [this h]
 cases hx : l.find? (fun x => decide (singleR x ≠ 0)) with
 | none => rfl
 | some y =>
  have hm := h y (List.mem_of_find?_eq_some hx)
  exact bare_single hm.1 hm.2
theorem bare_fold : ∀ (l A : List Raw), (bareL l).foldl withR (bareL A) = bareL (l.foldl withR A)
 | [], A => rfl
 | x :: l, A => by
  show (bareL l).foldl withR (withR (bareL A) (bareR x)) = _
  rw [bare_with]
  exact bare_fold l _
theorem bare_fillX (N : NP) (t : List Raw) : ∀ k, fillX N (bareL t) k = bareL (fillX N t k)
 | 0 => rfl
 | k + 1 => by
  unfold fillX
  rw [bare_fillX N t k, bare_at]
  split
  ·rfl
  ·rw [show ((joinS (N.take (k + 1)), true, []) : Raw) = bareR (joinS (N.take (k + 1)), true, []) from rfl, bare_with]; rfl
theorem bare_fillL : ∀ (l t : List Raw), fillL (bareL l) (bareL t) = bareL (fillL l t)
 | [], t => rfl
 | x :: l, t => by
  show (bareL l).foldl _ (fillX (splitN x.1) (bareL t) _) = _
  rw [bare_fillX]
  exact bare_fillL l _
theorem bare_badL : badL (bareL l) ↔ badL l := by
 have hb : ∀ i, (bareL l)[i]? = (l[i]?).map bareR := fun i => by unfold bareL; rw [List.getElem?_map]
 unfold badL BadAt
 constructor
 ·rintro ⟨i, k, x, y, h1, h2, h3, h4, h5⟩
  rw [hb] at h1 h2
  obtain ⟨x', g1, rfl⟩ := Option.map_eq_some_iff.1 h1
  obtain ⟨y', g2, rfl⟩ := Option.map_eq_some_iff.1 h2
  exact ⟨i, k, x', y', g1, g2, h3, h4, h5⟩
 ·rintro ⟨i, k, x, y, h1, h2, h3, h4, h5⟩
  exact ⟨i, k, bareR x, bareR y, by rw [hb, h1]; rfl, by rw [hb, h2]; rfl, h3, h4, h5⟩
theorem bare_of (h : OKd l) : ofL (bareL l) = (bareL (ofL l).1, (ofL l).2) := by
 have hn : (bareL l).map (·.1) = l.map (·.1) := bare_names' l
 have hf : fillL (bareL l) ((bareL l).foldl withR []) = bareL (fillL l (l.foldl withR [])) := by
  have := bare_fold l []
  rw [show bareL ([] : List Raw) = [] from rfl] at this
  rw [this, bare_fillL]
 unfold ofL
 rw [bare_first h, hn, hf, bare_len, show badL (bareL l) = badL l from propext bare_badL]
 split
 ·rfl
 ·split
  ·rfl
  ·split
   ·rfl
   ·split <;> rfl
theorem fillX_mem {N : NP} {t : List Raw} {y : Raw} : ∀ k, y ∈ fillX N t k → y ∈ t ∨ (y.2.1 = true ∧ y.2.2 = [])
 | 0, h => .inl h
 | k + 1, h => by
  unfold fillX at h
  split at h
  ·exact fillX_mem k h
  ·rcases withR_mem.1 h with rfl | h
   ·exact .inr ⟨rfl, rfl⟩
   ·exact fillX_mem k h
theorem fillX_sub {N : NP} {t : List Raw} {y : Raw} (h : y ∈ t) : ∀ k, y ∈ fillX N t k
 | 0 => h
 | k + 1 => by
  unfold fillX
  split
  ·exact fillX_sub h k
  ·exact withR_mem.2 (.inr (fillX_sub h k))
theorem fillX_used {N : NP} {t : List Raw} : ∀ k, usedL (fillX N t k) = usedL t
 | 0 => rfl
 | k + 1 => by
  unfold fillX
  split
  ·exact fillX_used k
  ·rw [usedL_with, fillX_used k]; simp
theorem fillL_mem {y : Raw} : ∀ {l t : List Raw}, y ∈ fillL l t → y ∈ t ∨ (y.2.1 = true ∧ y.2.2 = [])
 | [], t, h => .inl h
 | x :: l, t, h => by
  rcases fillL_mem (l := l) h with h | h
  ·exact fillX_mem _ h
  ·exact .inr h
theorem fillL_sub {y : Raw} : ∀ {l t : List Raw}, y ∈ t → y ∈ fillL l t
 | [], t, h => h
 | x :: l, t, h => fillL_sub (l := l) (fillX_sub h _)
theorem fillL_used : ∀ {l t : List Raw}, usedL (fillL l t) = usedL t
 | [], t => rfl
 | x :: l, t => by
  show usedL (fillL l _) = _
  rw [fillL_used (l := l), fillX_used]
theorem fold_used : ∀ {l A : List Raw}, usedL (l.foldl withR A) = usedL l + usedL A
 | [], A => by simp [usedL]
 | x :: l, A => by
  show usedL (l.foldl withR (withR A x)) = _
  rw [fold_used, usedL_with, usedL_cons]; omega
/-- What stands there when files are made. -/
theorem of_facts (h0 : (ofL l).2 = 0) (hd : OKd l) : (l.map (·.1)).Nodup ∧ usedL (ofL l).1 = usedL l ∧ (∀ p d, (p, false, d) ∈ (ofL l).1 ↔ (p, false, d) ∈ l) ∧ ∀ z ∈ (ofL l).1, z.2.1 = true → z.2.2 = [] := by
 unfold ofL at h0 ⊢
 split
 ·rename_i h1; rw [if_pos h1] at h0; exact absurd h0 h1
 ·rename_i h1
  rw [if_neg h1] at h0
  split
  ·rename_i h2; rw [if_pos h2] at h0; cases h0
  ·rename_i h2
   rw [if_neg h2] at h0
   split
   ·rename_i h3; rw [if_pos h3] at h0; cases h0
   ·rename_i h3
    rw [if_neg h3] at h0
    split
    ·rename_i h4; rw [if_pos h4] at h0; cases h0
    ·refine ⟨Classical.not_not.1 h2, by rw [fillL_used, fold_used]; simp [usedL], fun p d => ⟨fun h => ?_, fun h => fillL_sub (fold_mem.2 h)⟩, fun z hz hzd => ?_⟩
     ·rcases fillL_mem h with h | ⟨h, _⟩
      ·exact fold_mem.1 h
      ·cases h
     ·rcases fillL_mem hz with h | ⟨_, h⟩
      ·exact (hd z (fold_mem.1 h)).2 hzd
      ·exact h
end
end Go.Proofs.YtigfbpbnohkokaaGreat

namespace Go.Proofs.YtigfbpbnohkokaaGreat
open Go Go.Fw Go.RowKit Go.Proofs
set_option linter.unusedVariables false
set_option linter.unusedSimpArgs false
set_option maxRecDepth 100000
set_option maxHeartbeats 4000000

-- slices.IndexFunc[[]valise/api.Meta,valise/api.Meta]
theorem indexM_c {w0 : World} {p : Option Addr} {cap g : Nat} {cp : Array Value} {l : List Mt} {f : Mt → Bool} (h : MetasAt w0 (.slice p l.length cap) l) (hl : l.length ≤ 1000) (hent : entered Tryz.prog g = true)
  (hg : ∀ x ∈ l, ∀ w, New w0 w → Ret Tryz.prog g (#[] ++ [.agg #[strV x.1, .bool x.2.1, .int .i64 x.2.2]].toArray ++ cp) w fun r w' => r = .bool (f x) ∧ New w w') : Ret Tryz.prog 59 #[.slice p l.length cap, .func (.func g) #[] cp] w0 fun r w' => r = .int .i64 (idxI l f) ∧ New w0 w' := by
 have M : Sep w0 [] w0 := St.nil w0
 refine Ret.of_W Tryz.func59 rfl Tryz.ntmps59 rfl ?_
 refine go 1 ?_
 refine W.loop (σ := Nat) (fun j => [(0, _), (1, _), (7, _), (8, .int .i64 ((j : Nat) : Int))]) (fun j w => j ≤ l.length ∧ (∀ x ∈ l.take j, f x = false) ∧ Sep w0 [] w) (fun j => l.length - j) 0 ⟨rfl, rfl, rfl, rfl, trivial⟩ ⟨Nat.zero_le _, by simp, M⟩ ?_
 rintro j w ⟨hj, hno, M⟩
 refine cnd 1 ?_ ?_
 ·intro hco1
  obtain ⟨x, hx⟩ := get_lt (l := l) (q := j) (by omega)
  have hs := h.new M.frm
  obtain ⟨b, off, rfl, _⟩ := hs.blk (j := j) (by omega)
  have hrow := hs.row hx
  refine go 0 ?_
  refine x_ia j rfl rfl rfl Tryz.underlying22 sz26 rfl rfl rfl (by omega) ?_
  refine x_ldA [_, _, _] rfl rfl rfl Tryz.underlying26 rfl sz26 rfl rfl hrow ?_
  refine x_call rfl rfl rfl rfl rfl hent (hg x (List.mem_of_getElem? hx) _ M.frm) ?_
  rintro v w1 ⟨rfl, hn1⟩
  have M := M.new hn1
  refine ⟨trivial, ?_⟩
  refine cnd 0 ?_ ?_
  ·intro hco2
   refine go 1 ?_
   exact ⟨by rw [idxI_at hx hno hco2], M.frm⟩
  ·intro hco2
   refine go 0 ?_
   refine x_add _ rfl rfl rfl rfl rfl (wadd (by omega) (by omega)) ?_
   refine go 0 ?_
   exact At.back (j + 1) ⟨rfl, rfl, rfl, rfl, trivial⟩ ⟨by omega, mem_take_snoc hx hno hco2, M⟩ (by first | omega | (simp only; omega) | (simp; done) | (simp; omega))
 ·intro hco1
  refine go 1 ?_
  have hj2 : j = l.length := by omega
  subst hj2
  rw [List.take_length] at hno
  exact ⟨by rw [idxI_no hno], M.frm⟩

-- slices.ContainsFunc[[]valise/api.Meta,valise/api.Meta]
theorem containsM_c {w0 : World} {p : Option Addr} {cap g : Nat} {cp : Array Value} {l : List Mt} {f : Mt → Bool} (h : MetasAt w0 (.slice p l.length cap) l) (hl : l.length ≤ 1000) (hent : entered Tryz.prog g = true)
  (hg : ∀ x ∈ l, ∀ w, New w0 w → Ret Tryz.prog g (#[] ++ [.agg #[strV x.1, .bool x.2.1, .int .i64 x.2.2]].toArray ++ cp) w fun r w' => r = .bool (f x) ∧ New w w') : Ret Tryz.prog 36 #[.slice p l.length cap, .func (.func g) #[] cp] w0 fun r w' => r = .bool (l.any f) ∧ New w0 w' := by
 have M : Sep w0 [] w0 := St.nil w0
 refine Ret.of_W Tryz.func36 rfl Tryz.ntmps36 rfl ?_
 refine go 0 ?_
 refine x_call rfl rfl rfl rfl rfl en59 (indexM_c h hl hent hg) ?_
 rintro r_ w1 ⟨rfl, hn1⟩
 have M := M.new hn1
 refine ⟨trivial, ?_⟩
 refine go 2 ?_
 exact ⟨by rw [any_idx], M.frm⟩

-- valise/overlay.New$1
theorem new1_c {w0 : World} {m : Mt}  : Ret Tryz.prog 37 #[.agg #[strV m.1, .bool m.2.1, .int .i64 m.2.2]] w0 fun r w' => r = .bool (decide (65536 < m.2.2)) ∧ New w0 w' := by
 have M : Sep w0 [] w0 := St.nil w0
 refine Ret.of_W Tryz.func37 rfl Tryz.ntmps37 rfl ?_
 refine go 1 ?_
 intro _ _ M
 refine go 3 ?_
 exact ⟨rfl, M.frm⟩

end Go.Proofs.YtigfbpbnohkokaaGreat

namespace Go.Proofs.YtigfbpbnohkokaaGreat
open Go Go.Fw Go.RowKit
set_option linter.unusedVariables false
set_option linter.unusedSimpArgs false

def bCs (ml : List Mt) : List Value := fCs (ml.map fun m => (mRaw m, .slice none 0 0))
theorem bCs_one (ml : List Mt) : ∀ u ∈ bCs ml, u.oneCell' = true := fCs_one fun f hf => by
 obtain ⟨m, _, rfl⟩ := List.mem_map.1 hf; rfl
theorem bCs_snoc (ml : List Mt) (m : Mt) : bCs (ml ++ [m]) = bCs ml ++ [strV m.1, .bool m.2.1, .slice none 0 0] := by
 unfold bCs fCs
 simp [mRaw]
theorem bare_at_mem {L : List (Nat × Obj)} {u : Value} {ml : List Mt} {w : World} (how : OwL L u 3 ml.length (bCs ml)) (hg : ∀ y ∈ L, w.heap[y.1]? = some y.2) : FilesAt w u (ml.map mRaw) :=
 ⟨ml.map fun m => (mRaw m, .slice none 0 0), by rw [List.map_map]; rfl, .inr (by rw [List.length_map]; exact (how.sl (by decide)).get hg), fun f hf => by
  obtain ⟨m, _, rfl⟩ := List.mem_map.1 hf
  exact ⟨.inr (.inl ⟨rfl, rfl, rfl⟩), rfl⟩⟩
section
variable {l : List Raw} {ml : List Mt} {j : Nat} {C : List Con} {x : Raw} {m : Mt}
theorem badM_no (h : badM m = false) : 0 ≤ m.2.2 ∧ (m.2.1 = true → m.2.2 = 0) := by
 unfold badM at h
 simp only [Bool.or_eq_false_iff, decide_eq_false_iff_not, Bool.and_eq_false_imp] at h
 exact ⟨by omega, fun hd => by have := h.2 hd; omega⟩
theorem mRaw_meta (l : List Raw) : (l.map metaR).map mRaw = bareL l := by unfold bareL; rw [List.map_map]; rfl
theorem big_any (l : List Raw) : (l.map metaR).any (fun m => decide (65536 < m.2.2)) = l.any fun x => decide (65536 < x.2.2.length) := by
 rw [List.any_map]
 congr 1
 funext x
 show decide ((65536 : Int) < (x.2.2.length : Int)) = _
 rw [decide_eq_decide]; omega
theorem okd_of (hb : (l.map metaR).any badM = false) (hg : l.any (fun x => decide (65536 < x.2.2.length)) = false) : OKd l := fun x hx => by
 have h1 := List.any_eq_false.1 hb (metaR x) (List.mem_map.2 ⟨x, hx, rfl⟩)
 have h2 := List.any_eq_false.1 hg x hx
 obtain ⟨g1, g2⟩ := badM_no (m := metaR x) (by simpa using h1)
 refine ⟨by simpa using h2, fun hd => List.length_eq_zero_iff.1 ?_⟩
 have := g2 hd
 have : (x.2.2.length : Int) = 0 := this
 omega
theorem newS_3 (h : l.any (fun x => decide (65536 < x.2.2.length)) = true) : newS l = ([], 3) := by unfold newS; rw [if_pos h]
theorem newS_of (h : l.any (fun x => decide (65536 < x.2.2.length)) = false) (h2 : (ofL (bareL l)).2 ≠ 0) : newS l = ([], (ofL (bareL l)).2) := by unfold newS; rw [if_neg (by rw [h]; simp), if_pos h2]
theorem newS_7 (h : l.any (fun x => decide (65536 < x.2.2.length)) = false) (h2 : (ofL (bareL l)).2 = 0) (h3 : 262144 < usedL l) : newS l = ([], 7) := by unfold newS; rw [if_neg (by rw [h]; simp), if_neg (fun e => e h2), if_pos h3]
theorem newS_0 (h : l.any (fun x => decide (65536 < x.2.2.length)) = false) (h2 : (ofL (bareL l)).2 = 0) (h3 : ¬ 262144 < usedL l) : newS l = ((ofL l).1, 0) := by unfold newS; rw [if_neg (by rw [h]; simp), if_neg (fun e => e h2), if_neg h3]
structure MkI (l : List Raw) (j : Nat) (C : List Con) : Prop where
 rows : (C.map fun c => ((c.k, false, c.d) : Raw)) = (l.take j).filter fun x => !x.2.1
 con : ∀ c ∈ C, c.own = false ∧ c.D = [] ∧ c.v = .slice none 0 0 ∧ c.nm = c.k ∧ c.sz = c.d.length
theorem MkI.nil : MkI l 0 [] := ⟨by simp, by simp⟩
theorem MkI.skip (h : MkI l j C) (hx : l[j]? = some x) (hd : x.2.1 = true) : MkI l (j + 1) C := ⟨by rw [take_snoc hx, List.filter_append, ← h.rows]; simp [hd], h.con⟩
theorem MkI.step (h : MkI l j C) (hx : l[j]? = some x) (hd : x.2.1 = false) (b : Nat) : MkI l (j + 1) (C ++ [⟨x.1, b, false, .slice none 0 0, [], x.1, x.2.2.length, x.2.2⟩]) := by
 refine ⟨?_, fun c hc => ?_⟩
 ·rw [take_snoc hx, List.filter_append, ← h.rows, List.map_append]
  obtain ⟨a, b', d⟩ := x
  simp only at hd
  subst hd
  simp
 ·rcases List.mem_append.1 hc with hc | hc
  ·exact h.con c hc
  ·rw [List.mem_singleton.1 hc]; exact ⟨rfl, rfl, rfl, rfl, rfl⟩
theorem MkI.keys (h : MkI l j C) : C.map (·.k) = ((l.take j).filter fun x => !x.2.1).map (·.1) := by
 rw [← h.rows, List.map_map]; rfl
theorem MkI.new (h : MkI l j C) (hn : (l.map (·.1)).Nodup) (hx : l[j]? = some x) : ∀ c ∈ C, c.k ≠ x.1 := fun c hc e => by
 have h1 : c.k ∈ (l.take j).map (·.1) := by
  have : c.k ∈ C.map (·.k) := List.mem_map.2 ⟨c, hc, rfl⟩
  rw [h.keys] at this
  obtain ⟨y, hy, hy1⟩ := List.mem_map.1 this
  exact List.mem_map.2 ⟨y, (List.mem_filter.1 hy).1, hy1⟩
 rw [split_at hx, List.map_append, List.nodup_append] at hn
 exact hn.2.2 c.k h1 x.1 (by simp) e
theorem cmap_snoc {c : Con} (hno : ∀ x ∈ C, x.k ≠ c.k) : cmap (C ++ [c]) = setF (cmap C) c.k (some (ptr c.b)) := by
 funext q
 unfold cmap cget setF
 rw [List.find?_append]
 by_cases e : q = c.k
 ·subst e
  have : C.find? (fun x => decide (x.k = c.k)) = none := List.find?_eq_none.2 fun x hx => by simpa using hno x hx
  rw [this, if_pos rfl]; simp
 ·rw [if_neg e]
  show ((C.find? (fun c => decide (c.k = q))).or _).map _ = (C.find? (fun c => decide (c.k = q))).map _
  cases C.find? (fun c => decide (c.k = q)) with
  | some x => rfl
  | none =>
   have : ¬ c.k = q := fun h => e h.symm
   simp [this]
def hs0 : List Hd := List.replicate 128 ([], false)
/-- What is made is as it should be. -/
theorem made_fr {base : BaseF} {bt bm : Nat} {om : Obj} {E : List Ent} (hd : OKd l) (h0 : (ofL (bareL l)).2 = 0) (hu : usedL l ≤ 262144) (hT : TR E (ofL (bareL l)).1) (hI : MkI l l.length C) (hm : MapF strV om (cmap C)) (hba : ∀ x ∈ l, x.2.1 = false → base x.1 = some x.2.2) :
  FR base ⟨bt, bm, om, E, C, hs0⟩ (ofL l).1 (fun _ _ => none) ∧ usedL (ofL l).1 = usedL l := by
 have hof := bare_of hd
 have h0' : (ofL l).2 = 0 := by rw [hof] at h0; exact h0
 obtain ⟨hn, hus, hmem, hdd⟩ := of_facts h0' hd
 have hrows := hI.rows
 rw [List.take_length] at hrows
 have hC : ∀ c ∈ C, (c.k, false, c.d) ∈ l := fun c hc => by
  have : (c.k, false, c.d) ∈ C.map (fun c => ((c.k, false, c.d) : Raw)) := List.mem_map.2 ⟨c, hc, rfl⟩
  rw [hrows] at this
  exact (List.mem_filter.1 this).1
 refine ⟨⟨?_, hm, ?_, ?_, ?_, hdd, by rw [hus]; exact hu, by simp [hs0], ?_, ?_⟩, hus⟩
 ·rw [hof] at hT; exact hT
 ·have := hI.keys
  rw [List.take_length] at this
  show (C.map (·.k)).Nodup
  rw [this]
  exact ((List.filter_sublist).map _).nodup hn
 ·intro c hc
  obtain ⟨g1, g2, g3, g4, g5⟩ := hI.con c hc
  exact ⟨(hd _ (hC c hc)).1, (fun h => by rw [g1] at h; cases h), fun _ => ⟨g2, g3, g5, by rw [g4]; exact hba _ (hC c hc) rfl⟩⟩
 ·intro p d
  rw [hmem]
  constructor
  ·intro h
   have : (p, false, d) ∈ l.filter (fun x => !x.2.1) := List.mem_filter.2 ⟨h, rfl⟩
   rw [← hrows] at this
   obtain ⟨c, hc, e⟩ := List.mem_map.1 this
   simp only [Prod.mk.injEq, true_and] at e
   exact ⟨c, hc, e.1, e.2⟩
  ·rintro ⟨c, hc, rfl, rfl⟩
   exact hC c hc
 ·funext who n
  unfold hAt
  split
  ·have : ∀ i : Nat, (match hs0[i]? with | some h => if h.1 = [] then none else some h | none => none) = (none : Option Hd) := by
    intro i
    unfold hs0
    rw [List.getElem?_replicate]
    by_cases hi : i < 128
    ·rw [if_pos hi]; simp
    ·rw [if_neg hi]
   exact (this _).symm
  ·rfl
 ·intro h hh h1
  rw [List.eq_of_mem_replicate hh] at h1
  exact absurd rfl h1
end
end Go.Proofs.YtigfbpbnohkokaaGreat

namespace Go.Proofs.YtigfbpbnohkokaaGreat
open Go Go.Fw Go.RowKit Go.Proofs
set_option linter.unusedVariables false
set_option linter.unusedSimpArgs false
set_option maxRecDepth 100000
set_option maxHeartbeats 4000000
theorem used_take {l : List Raw} (h : OKd l) : ∀ j, usedL (l.take j) ≤ j * 65536
 | 0 => by simp [usedL]
 | j + 1 => by
  have ih := used_take h j
  by_cases hj : j < l.length
  ·obtain ⟨x, hx⟩ := get_lt (l := l) (q := j) hj
   rw [take_snoc hx, usedL_app, usedL_cons]
   have h1 := (h x (List.mem_of_getElem? hx)).1
   rw [show usedL ([] : List Raw) = 0 from rfl, Nat.add_zero, Nat.succ_mul]
   exact Nat.add_le_add ih h1
  ·rw [List.take_of_length_le (by omega)]
   rw [List.take_of_length_le (by omega)] at ih
   exact Nat.le_trans ih (Nat.mul_le_mul_right _ (Nat.le_succ j))
-- valise/overlay.New
theorem onew_c {w0 : World} {v bv : Value} {ml : List Mt} {l : List Raw} {base : BaseF} (h : MetasAt w0 v ml) (hl : ml.length ≤ 1000) (hbv : nilI bv = some false) (hml : ml.any badM = false → ml = l.map metaR) (hba : (newS l).2 = 0 → ∀ x ∈ l, x.2.1 = false → base x.1 = some x.2.2) : Ret Tryz.prog 13 #[v, bv] w0 fun r w' => (ml.any badM = true ∧ r = .tuple #[.pointer none, .int .i64 2] ∧ New w0 w') ∨ (ml.any badM = false ∧ (newS l).2 ≠ 0 ∧ r = .tuple #[.pointer none, .int .i64 (newS l).2] ∧ New w0 w') ∨ (ml.any badM = false ∧ (newS l).2 = 0 ∧ ∃ bf S, r = .tuple #[ptr bf, .int .i64 0] ∧ FR base S (newS l).1 (fun _ _ => none) ∧ Sep w0 (fsB bf bv (usedL (newS l).1) S) w') := by
 have M : Sep w0 [] w0 := St.nil w0
 obtain ⟨pv, cv, rfl⟩ := Sg.shape h
 obtain ⟨Ty, rv, rfl⟩ : ∃ Ty rv, bv = .iface Ty rv := by cases bv <;> simp [nilI] at hbv; exact ⟨_, _, rfl⟩
 have hul0 : usedL (l.take 0) = 0 := rfl
 refine Ret.of_W Tryz.func13 rfl Tryz.ntmps13 rfl ?_
 refine go 0 ?_
 refine x_eqif false rfl rfl rfl Tryz.underlying82 rfl rfl hbv ?_
 refine go 1 ?_
 refine W.loop (σ := Nat × Value × List (Nat × Obj)) (fun q => [(0, _), (1, _), (6, q.2.1), (16, _), (17, _), (18, .int .i64 ((q.1 : Nat) : Int))]) (fun q w => q.1 ≤ ml.length ∧ (∀ m ∈ ml.take q.1, badM m = false) ∧ OwL q.2.2 q.2.1 3 q.1 (bCs (ml.take q.1)) ∧ Sep w0 q.2.2 w) (fun q => ml.length - q.1) (0, .slice none 0 0, []) ⟨rfl, rfl, rfl, rfl, rfl, rfl, trivial⟩ ⟨Nat.zero_le _, by simp, OwL.nil, M⟩ ?_
 rintro ⟨j, u, Lo⟩ w ⟨hj, hok, how, M⟩
 simp only at hj hok how M
 obtain ⟨pu, cu, rfl⟩ := how.shape
 refine cnd 1 ?_ ?_
 ·intro hco2
  obtain ⟨m, hx⟩ := get_lt (l := ml) (q := j) (by omega)
  obtain ⟨bb, off, rfl, _⟩ := (h.new M.frm).blk (j := j) (by omega)
  have hrow := (h.new M.frm).row hx
  refine go 0 ?_
  refine x_ia j rfl rfl rfl Tryz.underlying22 sz26 rfl rfl rfl (by omega) ?_
  refine x_ldA [_, _, _] rfl rfl rfl Tryz.underlying26 rfl sz26 rfl rfl hrow ?_
  refine go 1 ?_
  intro _ _ M
  refine go 1 ?_
  intro _ M
  refine spl 2 25 ?_ ?_
  ·intro hsp1
   refine go 1 ?_
   exact .inl ⟨List.any_eq_true.2 ⟨m, List.mem_of_getElem? hx, by unfold badM; simp [hsp1]⟩, rfl, M.frm⟩
  ·intro hsp1
   refine spl 1 28 ?_ ?_
   ·intro hsp2
    refine cnd 2 ?_ ?_
    ·intro hco4
     refine go 1 ?_
     exact .inl ⟨List.any_eq_true.2 ⟨m, List.mem_of_getElem? hx, by unfold badM; simp [hsp2, hco4]⟩, rfl, M.frm⟩
    ·intro hco4
     have hbm : badM m = false := by unfold badM; simp [hco4]; try omega
     refine go 3 ?_
     refine x_bs1 (cs := [strV m.1, .bool m.2.1, .slice none 0 0]) rfl rfl rfl Tryz.underlying24 sz29 ze29 (Z := [_, _, _]) rfl rfl (by decide) (by decide) rfl rfl rfl ?_
     intro bbs1 wbs1 hbbs1 hwbs1
     have M0 := M.acons hbbs1 hwbs1
     have hslbs1 : Sl wbs1 (.slice (some ⟨bbs1, 0, none⟩) 1 1) 3 1 [strV m.1, .bool m.2.1, .slice none 0 0] := .inr ⟨bbs1, 0, 1, _, _, _, rfl, by omega, M0.at_ 0 rfl, rfl, rfl⟩
     have M := M0.tail
     refine ⟨trivial, ?_⟩
     have M : Sep w0 (Lo ++ []) wbs1 := by rw [List.append_nil]; exact M.tail
     refine x_apL rfl rfl rfl rfl Tryz.underlying24 sz29 ze29 rfl by29 rfl rfl how M (bCs_one _) (hslbs1.src Tryz.underlying24 (by intro u hu; simp at hu; rcases hu with rfl | rfl | rfl <;> rfl)) (by omega) (by decide) (by omega) ?_
     intro Lo2 v6 w6 how M
     rw [← bCs_snoc, ← take_snoc hx] at how
     refine ⟨trivial, ?_⟩
     refine go 0 ?_
     refine x_add _ rfl rfl rfl rfl rfl (wadd (by omega) (by omega)) ?_
     refine go 0 ?_
     exact At.back ((j + 1, v6, Lo2)) ⟨rfl, rfl, rfl, rfl, rfl, rfl, trivial⟩ ⟨by simp only; omega, mem_take_snoc hx hok hbm, how, by simpa using M⟩ (by first | omega | (simp only; omega) | (simp; done) | (simp; omega))
   ·intro hsp2
    have hbm : badM m = false := by unfold badM; simp [hsp2]; try omega
    refine go 3 ?_
    refine x_bs1 (cs := [strV m.1, .bool m.2.1, .slice none 0 0]) rfl rfl rfl Tryz.underlying24 sz29 ze29 (Z := [_, _, _]) rfl rfl (by decide) (by decide) rfl rfl rfl ?_
    intro bbs2 wbs2 hbbs2 hwbs2
    have M0 := M.acons hbbs2 hwbs2
    have hslbs2 : Sl wbs2 (.slice (some ⟨bbs2, 0, none⟩) 1 1) 3 1 [strV m.1, .bool m.2.1, .slice none 0 0] := .inr ⟨bbs2, 0, 1, _, _, _, rfl, by omega, M0.at_ 0 rfl, rfl, rfl⟩
    have M := M0.tail
    refine ⟨trivial, ?_⟩
    have M : Sep w0 (Lo ++ []) wbs2 := by rw [List.append_nil]; exact M.tail
    refine x_apL rfl rfl rfl rfl Tryz.underlying24 sz29 ze29 rfl by29 rfl rfl how M (bCs_one _) (hslbs2.src Tryz.underlying24 (by intro u hu; simp at hu; rcases hu with rfl | rfl | rfl <;> rfl)) (by omega) (by decide) (by omega) ?_
    intro Lo2 v6 w6 how M
    rw [← bCs_snoc, ← take_snoc hx] at how
    refine ⟨trivial, ?_⟩
    refine go 0 ?_
    refine x_add _ rfl rfl rfl rfl rfl (wadd (by omega) (by omega)) ?_
    refine go 0 ?_
    exact At.back ((j + 1, v6, Lo2)) ⟨rfl, rfl, rfl, rfl, rfl, rfl, trivial⟩ ⟨by simp only; omega, mem_take_snoc hx hok hbm, how, by simpa using M⟩ (by first | omega | (simp only; omega) | (simp; done) | (simp; omega))
 ·intro hco2
  have hj2 : j = ml.length := by omega
  subst hj2
  rw [List.take_length] at hok how
  have hany : ml.any badM = false := List.any_eq_false.2 fun x hx => by rw [hok x hx]; simp
  have hme := hml hany
  have hll : l.length = ml.length := by rw [hme]; simp
  have hany2 := hany
  rw [hme] at hany2
  refine go 0 ?_
  refine x_call rfl rfl rfl rfl rfl en36 (containsM_c (g := 37) (cp := #[]) (f := fun m => decide (65536 < m.2.2)) (h.new M.frm) (by omega) en37 (fun x _ w2 hn2 => new1_c)) ?_
  rintro r_ w1 ⟨rfl, hn1⟩
  have M := M.new hn1
  rw [show (ml.any fun m => decide (65536 < m.2.2)) = l.any fun x => decide (65536 < x.2.2.length) by rw [hme]; exact big_any l]
  refine ⟨trivial, ?_⟩
  refine cnd 0 ?_ ?_
  ·intro hco6
   refine go 1 ?_
   exact .inr (.inl ⟨hany, by rw [newS_3 hco6]; decide, by rw [newS_3 hco6], M.frm⟩)
  ·intro hco6
   have hokd := okd_of hany2 hco6
   refine go 0 ?_
   refine x_call rfl rfl rfl rfl rfl en38 (of_r2 (l := bareL l) (by rw [show bareL l = ml.map mRaw by rw [hme, mRaw_meta]]; exact bare_at_mem how (fun y hy => M.get hy)) (by rw [bare_len]; omega)) ?_
   rintro r_ w2 ⟨po, TB, rfl, M2, hpo, hofk⟩
   have M := M.grow' M2
   refine ⟨trivial, ?_⟩
   refine cnd 1 ?_ ?_
   ·intro hco7
    refine go 1 ?_
    exact .inr (.inl ⟨hany, by rw [newS_of hco6 hco7]; exact hco7, by rw [newS_of hco6 hco7]; rfl, M.frm⟩)
   ·intro hco7
    obtain ⟨E2, bt, rfl, rfl, hT2⟩ := hofk hco7
    refine go 0 ?_
    refine x_mkmap rfl rfl rfl ?_
    intro bmm1 wmm1 hbmm1 hwmm1
    have M := M.acons hbmm1 hwmm1
    refine ⟨trivial, ?_⟩
    refine x_build (fsC (.iface Ty rv) 0 ⟨bt, bmm1, .map #[] 0, E2, [], hs0⟩) rfl rfl rfl pl90 ze90 rfl rfl (by kernel_rfl) ?_
    refine x_box (fsC (.iface Ty rv) 0 ⟨bt, bmm1, .map #[] 0, E2, [], hs0⟩) rfl rfl rfl rfl rfl ?_
    intro bbx1 wbx1 hbbx1 hwbx1
    have M := M.acons hbbx1 hwbx1
    have M : Sep w0 ((bbx1, .cells (fsC (.iface Ty rv) 0 ⟨bt, bmm1, .map #[] 0, E2, [], hs0⟩).toArray 90 (0, 0)) :: (bmm1, .map #[] 0) :: (tb bt E2 ++ Lo)) wbx1 := M
    have M : Sep w0 (fsB bbx1 (.iface Ty rv) (usedL (l.take 0)) ⟨bt, bmm1, .map #[] 0, E2, [], hs0⟩ ++ Lo) wbx1 := by
     have e : fsB bbx1 (.iface Ty rv) (usedL (l.take 0)) ⟨bt, bmm1, .map #[] 0, E2, [], hs0⟩ = (bbx1, .cells (fsC (.iface Ty rv) 0 ⟨bt, bmm1, .map #[] 0, E2, [], hs0⟩).toArray 90 (0, 0)) :: (bmm1, .map #[] 0) :: (tb bt E2 ++ []) := rfl
     rw [e, List.append_nil]; exact M
    refine ⟨trivial, ?_⟩
    refine go 1 ?_
    refine W.loop (σ := Nat × Obj × List Con) (fun q => [(11, _), (58, _), (59, _), (60, .int .i64 ((q.1 : Nat) : Int))]) (fun q w => q.1 ≤ ml.length ∧ MkI l q.1 q.2.2 ∧ MapF strV q.2.1 (cmap q.2.2) ∧ Sep w0 (fsB bbx1 (.iface Ty rv) (usedL (l.take q.1)) ⟨bt, bmm1, q.2.1, E2, q.2.2, hs0⟩ ++ Lo) w) (fun q => ml.length - q.1) (0, .map #[] 0, []) ⟨rfl, rfl, rfl, rfl, trivial⟩ ⟨Nat.zero_le _, MkI.nil, MapF.made, M⟩ ?_
    rintro ⟨j, om, C⟩ w ⟨hj, hI, hmp, M⟩
    simp only at hj hI hmp M
    refine cnd 1 ?_ ?_
    ·intro hco8
     obtain ⟨m, hx⟩ := get_lt (l := ml) (q := j) (by omega)
     obtain ⟨bb, off, rfl, _⟩ := (h.new M.frm).blk (j := j) (by omega)
     have hrow := (h.new M.frm).row hx
     obtain ⟨x, hlx⟩ := get_lt (l := l) (q := j) (by omega)
     have hmx : m = metaR x := by rw [hme, List.getElem?_map, hlx] at hx; exact (Option.some.inj hx).symm
     subst hmx
     have hxl := List.mem_of_getElem? hlx
     have hxd := (hokd x hxl).1
     have hul : usedL (l.take j) ≤ j * 65536 := used_take hokd j
     have hus : usedL (l.take (j + 1)) = usedL (l.take j) + x.2.2.length := by rw [take_snoc hlx, usedL_app, usedL_cons]; simp [usedL]
     have h0f : (ofL l).2 = 0 := by have := hco7; rw [bare_of hokd] at this; exact this
     have hnd := (of_facts h0f hokd).1
     refine go 0 ?_
     refine x_ia j rfl rfl rfl Tryz.underlying22 sz26 rfl rfl rfl (by omega) ?_
     refine x_ldA [_, _, _] rfl rfl rfl Tryz.underlying26 rfl sz26 rfl rfl hrow ?_
     refine go 1 ?_
     intro bal2 _ M
     refine x_st [_, _, _] _ rfl rfl rfl sz26 rfl rfl rfl rfl (by first | exact M.at_ 0 rfl | exact M.at_ 1 rfl | exact M.at_ 2 rfl | exact M.at_ 3 rfl | exact M.at_ 4 rfl | exact M.at_ 5 rfl | exact M.at_ 6 rfl | exact M.at_ 7 rfl) rfl rfl rfl ?_
     intro wst2 hwst2
     have M : Sep w0 ((bal2, .cells [strV x.1, .bool x.2.1, .int .i64 (x.2.2.length : Int)].toArray 26 (0, 0)) :: (fsB bbx1 (.iface Ty rv) (usedL (l.take j)) ⟨bt, bmm1, om, E2, C, hs0⟩ ++ Lo)) wst2 := M.put 0 rfl hwst2
     refine ⟨trivial, ?_⟩
     refine go 1 ?_
     refine x_not (!x.2.1) rfl rfl rfl rfl rfl ?_
     refine cnd 0 ?_ ?_
     ·intro hco9
      have hd : x.2.1 = false := by simpa using hco9
      have hnew := hI.new hnd hlx
      refine go 0 ?_
      refine W.regD (by kernel_rfl) #[0, 1, 3, 7, 0, 16, 0, 64, 0, 256, 960, 1984, 4095] [(0, false), (1, false), (2, false), (3, false), (4, false), (5, false), (6, false), (7, false), (8, false), (9, false), (10, false), (11, true), (12, true)] (by kernel_rfl) ?_
      intro K wD1 hK hwD1
      have M : Sep w0 ((bal2, .cells [strV x.1, .bool x.2.1, .int .i64 (x.2.2.length : Int)].toArray 26 (0, 0)) :: (fsB bbx1 (.iface Ty rv) (usedL (l.take j)) ⟨bt, bmm1, om, E2, C, hs0⟩ ++ Lo)) wD1 := M.drew hwD1
      refine go 0 ?_
      refine x_ld rfl rfl rfl Tryz.underlying84 rfl rfl (cell_of (fs_at (X := (bal2, .cells [strV x.1, .bool x.2.1, .int .i64 (x.2.2.length : Int)].toArray 26 (0, 0)) :: (fsB bbx1 (.iface Ty rv) (usedL (l.take j)) ⟨bt, bmm1, om, E2, C, hs0⟩ ++ Lo)) M (fun y (hy : y ∈ fsB bbx1 (.iface Ty rv) (usedL (l.take j)) ⟨bt, bmm1, om, E2, C, hs0⟩) => by simp [hy])) rfl) ?_
      refine go 4 ?_
      refine x_box [_, _, _, _] rfl rfl rfl rfl rfl ?_
      intro bbx2 wbx2 hbbx2 hwbx2
      have M := M.acons hbbx2 hwbx2
      refine ⟨⟨.inl (by kernel_rfl), .inl (by kernel_rfl), .inr (cell_of (by first | exact M.at_ 0 rfl | exact M.at_ 1 rfl | exact M.at_ 2 rfl | exact M.at_ 3 rfl | exact M.at_ 4 rfl | exact M.at_ 5 rfl | exact M.at_ 6 rfl | exact M.at_ 7 rfl) rfl), (by first | exact .inr (cell_of (by first | exact M.at_ 0 rfl | exact M.at_ 1 rfl | exact M.at_ 2 rfl | exact M.at_ 3 rfl | exact M.at_ 4 rfl | exact M.at_ 5 rfl | exact M.at_ 6 rfl | exact M.at_ 7 rfl) rfl) | exact .inr (cell_of (fs_at (X := (bal2, .cells [strV x.1, .bool x.2.1, .int .i64 (x.2.2.length : Int)].toArray 26 (0, 0)) :: (fsB bbx1 (.iface Ty rv) (usedL (l.take j)) ⟨bt, bmm1, om, E2, C, hs0⟩ ++ Lo)) M (fun y (hy : y ∈ fsB bbx1 (.iface Ty rv) (usedL (l.take j)) ⟨bt, bmm1, om, E2, C, hs0⟩) => by simp [hy])) rfl)), trivial⟩, ?_⟩
      refine x_mup (enc := strV) x.1 rfl rfl rfl (strKey Tryz.underlying9) Tryz.underlying84 rfl rfl rfl (M.get (by simp [fsB])) hmp ?_
      intro omu1 wmu1 hmmu1 hwmu1
      have M : Sep w0 ((⟨x.1, bbx2, false, .slice none 0 0, [], x.1, x.2.2.length, x.2.2⟩ : Con).hd :: (bal2, .cells [strV x.1, .bool x.2.1, .int .i64 (x.2.2.length : Int)].toArray 26 (0, 0)) :: (fsB bbx1 (.iface Ty rv) (usedL (l.take j)) ⟨bt, bmm1, omu1, E2, C, hs0⟩ ++ Lo)) wmu1 := M.put 3 rfl hwmu1
      have M : Sep w0 ((bal2, .cells [strV x.1, .bool x.2.1, .int .i64 (x.2.2.length : Int)].toArray 26 (0, 0)) :: (fsB bbx1 (.iface Ty rv) (usedL (l.take j)) ⟨bt, bmm1, omu1, E2, (C ++ [(⟨x.1, bbx2, false, .slice none 0 0, [], x.1, x.2.2.length, x.2.2⟩ : Con)]), hs0⟩ ++ Lo)) wmu1 := M.perm (perm_c fun p => by
       unfold fsB
       have e : fsC (.iface Ty rv) (usedL (l.take j)) ⟨bt, bmm1, omu1, E2, (C ++ [(⟨x.1, bbx2, false, .slice none 0 0, [], x.1, x.2.2.length, x.2.2⟩ : Con)]), hs0⟩ = fsC (.iface Ty rv) (usedL (l.take j)) ⟨bt, bmm1, omu1, E2, C, hs0⟩ := rfl
       simp only [e, cblks_app, cblks_cons, Con.blks, List.countP_append, List.countP_cons, List.countP_nil]
       simp only [cblks, List.flatMap_nil, List.countP_nil]
       omega)
      rw [← cmap_snoc (c := (⟨x.1, bbx2, false, .slice none 0 0, [], x.1, x.2.2.length, x.2.2⟩ : Con)) hnew] at hmmu1
      refine pnd ?_
      refine go 0 ?_
      refine W.regD (by kernel_rfl) #[0, 1, 3, 7, 0, 16, 63, 127, 255, 511] [(0, false), (1, false), (2, false), (3, false), (4, false), (5, false), (6, false), (7, false), (8, false), (9, true)] (by kernel_rfl) ?_
      intro K wD2 hK hwD2
      have M : Sep w0 ((bal2, .cells [strV x.1, .bool x.2.1, .int .i64 (x.2.2.length : Int)].toArray 26 (0, 0)) :: (fsB bbx1 (.iface Ty rv) (usedL (l.take j)) ⟨bt, bmm1, omu1, E2, (C ++ [(⟨x.1, bbx2, false, .slice none 0 0, [], x.1, x.2.2.length, x.2.2⟩ : Con)]), hs0⟩ ++ Lo)) wD2 := M.drew hwD2
      refine go 0 ?_
      refine x_ld rfl rfl rfl Tryz.underlying3 rfl rfl (cell_of (fs_at M (fun y (hy : y ∈ fsB bbx1 (.iface Ty rv) (usedL (l.take j)) ⟨bt, bmm1, omu1, E2, (C ++ [(⟨x.1, bbx2, false, .slice none 0 0, [], x.1, x.2.2.length, x.2.2⟩ : Con)]), hs0⟩) => by simp [hy])) (fsC_used rfl)) ?_
      refine go 1 ?_
      refine x_add ((usedL (l.take (j + 1)) : Nat) : Int) rfl rfl rfl rfl rfl (by rw [wadd (by omega) (by omega), hus]; omega) ?_
      refine go 0 ?_
      refine x_st [_] (fsC (.iface Ty rv) (usedL (l.take (j + 1))) ⟨bt, bmm1, omu1, E2, (C ++ [(⟨x.1, bbx2, false, .slice none 0 0, [], x.1, x.2.2.length, x.2.2⟩ : Con)]), hs0⟩) rfl rfl rfl sz3 rfl rfl rfl rfl (fs_at M (fun y (hy : y ∈ fsB bbx1 (.iface Ty rv) (usedL (l.take j)) ⟨bt, bmm1, omu1, E2, (C ++ [(⟨x.1, bbx2, false, .slice none 0 0, [], x.1, x.2.2.length, x.2.2⟩ : Con)]), hs0⟩) => by simp [hy])) rfl (by rw [fsC_len (S := ⟨bt, bmm1, omu1, E2, (C ++ [(⟨x.1, bbx2, false, .slice none 0 0, [], x.1, x.2.2.length, x.2.2⟩ : Con)]), hs0⟩) rfl]; rfl) (fsC_use (S := ⟨bt, bmm1, omu1, E2, (C ++ [(⟨x.1, bbx2, false, .slice none 0 0, [], x.1, x.2.2.length, x.2.2⟩ : Con)]), hs0⟩) rfl) ?_
      intro wst3 hwst3
      have M : Sep w0 ((bal2, .cells [strV x.1, .bool x.2.1, .int .i64 (x.2.2.length : Int)].toArray 26 (0, 0)) :: (fsB bbx1 (.iface Ty rv) (usedL (l.take (j + 1))) ⟨bt, bmm1, omu1, E2, (C ++ [(⟨x.1, bbx2, false, .slice none 0 0, [], x.1, x.2.2.length, x.2.2⟩ : Con)]), hs0⟩ ++ Lo)) wst3 := M.put 1 rfl hwst3
      refine pnd ?_
      refine go 0 ?_
      refine x_add _ rfl rfl rfl rfl rfl (wadd (by omega) (by omega)) ?_
      refine go 0 ?_
      exact At.back ((j + 1, omu1, C ++ [(⟨x.1, bbx2, false, .slice none 0 0, [], x.1, x.2.2.length, x.2.2⟩ : Con)])) ⟨rfl, rfl, rfl, rfl, trivial⟩ ⟨by simp only; omega, hI.step hlx hd bbx2, hmmu1, M.tail⟩ (by first | omega | (simp only; omega) | (simp; done) | (simp; omega))
     ·intro hco9
      have hd : x.2.1 = true := by simpa using hco9
      have hx0 : x.2.2 = [] := (hokd x hxl).2 hd
      refine go 0 ?_
      refine x_add _ rfl rfl rfl rfl rfl (wadd (by omega) (by omega)) ?_
      refine go 0 ?_
      exact At.back ((j + 1, om, C)) ⟨rfl, rfl, rfl, rfl, trivial⟩ ⟨by simp only; omega, hI.skip hlx hd, hmp, by simp only; rw [hus, hx0]; exact M.tail⟩ (by first | omega | (simp only; omega) | (simp; done) | (simp; omega))
    ·intro hco8
     have hj2 : j = l.length := by omega
     subst hj2
     rw [List.take_length] at M
     refine go 0 ?_
     refine x_ld rfl rfl rfl Tryz.underlying3 rfl rfl (cell_of (fs_at M (fun y (hy : y ∈ fsB bbx1 (.iface Ty rv) (usedL l) ⟨bt, bmm1, om, E2, C, hs0⟩) => by simp [hy])) (fsC_used rfl)) ?_
     refine cnd 1 ?_ ?_
     ·intro hco10
      refine go 1 ?_
      exact .inr (.inl ⟨hany, by rw [newS_7 hco6 hco7 (by omega)]; decide, by rw [newS_7 hco6 hco7 (by omega)], M.frm⟩)
     ·intro hco10
      refine go 1 ?_
      have hN := newS_0 hco6 hco7 (by omega)
      obtain ⟨hF, hU⟩ := made_fr (base := base) (bt := bt) (bm := bmm1) hokd hco7 (by omega) hT2 hI hmp (hba (by rw [hN]))
      refine .inr (.inr ⟨hany, by rw [hN], bbx1, _, rfl, by rw [hN]; exact hF, ?_⟩)
      rw [hN]
      simp only
      rw [hU]
      exact M.dropR

end Go.Proofs.YtigfbpbnohkokaaGreat

namespace Go.Proofs.YtigfbpbnohkokaaGreat
open Go Go.Fw Go.RowKit Go.Proofs
set_option linter.unusedVariables false
set_option linter.unusedSimpArgs false
set_option maxRecDepth 100000
set_option maxHeartbeats 4000000

-- (valise/valiseref16.Tree).With
theorem with_c {w00 w0 : World} {L X : List (Nat × Obj)} {v : Value} {l : List Raw} {x : Raw} {dv : Value} (M : Sep w00 (L ++ X) w0) (h : FilesK w00 L v l) (hd : SgK w00 L dv 1 x.2.2.length (byteCs x.2.2)) (hl : l.length ≤ 5000) (hnm : ∀ y ∈ l, y.1.length ≤ 2000) (hxl : x.1.length ≤ 2000) : Ret Tryz.prog 33 #[.agg #[v], .agg #[strV x.1, .bool x.2.1, dv]] w0 fun r w' => ∃ u L', r = .agg #[u] ∧ FilesK w00 (L ++ L') u (withR l x) ∧ Sep w00 ((L ++ L') ++ X) w' := by
 have hFK := h
 obtain ⟨fs, hfm, hfs, hfd⟩ := h
 have hfl : fs.length = l.length := by rw [← hfm]; simp
 rw [hfl] at hfs
 obtain ⟨pv, cv, rfl⟩ := (hfs _ _ M (fun y hy => by simp [hy])).shape
 have hcap := Sg.capLe (hfs _ _ M (fun y hy => by simp [hy]))
 obtain ⟨pd, cd, rfl⟩ := (hd _ _ M (fun y hy => by simp [hy])).shape
 have hone : ∀ f ∈ fs, f.2.oneCell' = true := fun f hf => (hfd f hf).2
 refine Ret.of_W Tryz.func33 rfl Tryz.ntmps33 rfl ?_
 refine go 1 ?_
 intro bbx1 _ M
 refine go 1 ?_
 intro bbx2 _ M
 refine go 1 ?_
 intro bal1 _ M
 refine go 0 ?_
 refine W.loop (σ := Nat) (fun j => [(2, _), (3, _), (4, _), (5, .int .i64 ((j : Nat) : Int))]) (fun j w => j ≤ l.length ∧ (∀ y ∈ l.take j, compareP y.1 x.1 < 0) ∧ Sep w00 ([(bal1, .cells [.slice none 0 0].toArray 31 (0, 0)), (bbx2, .cells [strV x.1, .bool x.2.1, .slice pd x.2.2.length cd].toArray 29 (0, 0)), (bbx1, .cells [.slice pv l.length cv].toArray 31 (0, 0))] ++ (L ++ X)) w) (fun j => l.length - j) 0 ⟨rfl, rfl, rfl, rfl, trivial⟩ ⟨Nat.zero_le _, by simp, M⟩ ?_
 rintro j w ⟨hj, hlt, M⟩
 refine go 0 ?_
 refine W.regD (by kernel_rfl) #[0, 0, 2, 6, 15, 31, 63, 127, 63, 511, 1023, 2047, 63, 4159, 16383, 32767, 65535] [(0, false), (1, false), (2, false), (3, false), (4, false), (5, false), (6, false), (7, false), (8, false), (9, false), (10, false), (11, false), (12, false), (13, false), (14, true), (15, false), (16, false)] (by kernel_rfl) ?_
 intro K wD1 hK hwD1
 have M := M.drew hwD1
 refine spl 3 12 ?_ ?_
 ·intro hsp1
  obtain ⟨y, hy⟩ := get_lt (l := l) (q := j) (by omega)
  have hfa := hFK.at_ M (fun y hy => by simp [hy])
  obtain ⟨bb, off, rfl, _⟩ := hfa.blk (j := j) (by omega)
  obtain ⟨py, cy, hrow, _⟩ := hfa.row hy
  have hyl := hnm y (List.mem_of_getElem? hy)
  refine go 1 ?_
  refine x_ia j rfl rfl rfl Tryz.underlying24 sz29 rfl rfl rfl (by omega) ?_
  refine go 0 ?_
  refine x_ld rfl rfl rfl Tryz.underlying9 rfl rfl (RowAt.cell hrow (j := 0) rfl) ?_
  refine go 1 ?_
  refine x_call rfl rfl rfl rfl rfl en58 (rcompare_c (by omega) (by omega)) ?_
  rintro r wcall1 ⟨rfl, hncall1⟩
  have M := M.new hncall1
  refine pnd ?_
  refine cnd 1 ?_ ?_
  ·intro hco1
   refine go 0 ?_
   refine x_add _ rfl rfl rfl rfl rfl (wadd (by omega) (by omega)) ?_
   refine go 0 ?_
   exact At.back (j + 1) ⟨rfl, rfl, rfl, rfl, trivial⟩ ⟨by omega, fun z hz => by
    rw [take_mem hy] at hz
    rcases List.mem_append.1 hz with hz | hz
    ·exact hlt z hz
    ·rw [List.mem_singleton.1 hz]; exact hco1, M⟩ (by first | omega | (simp only; omega) | (simp; done) | (simp; omega))
  ·intro hco1
   have hW := withR_at hj hlt (fun z hz => by rw [hy] at hz; cases hz; exact hco1)
   refine go 0 ?_
   refine x_bs0 rfl rfl rfl Tryz.underlying24 sz29 ?_
   intro bb wb hbb hwb
   have M := M.acons hbb hwb
   refine ⟨trivial, ?_⟩
   refine go 1 ?_
   refine x_slh j rfl rfl rfl Tryz.underlying24 sz29 rfl rfl rfl (by omega) ?_
   refine x_apL (L := [_]) (cs := []) (nn := 0) rfl rfl rfl rfl Tryz.underlying24 sz29 ze29 rfl by29 rfl rfl (.inr ⟨bb, 0, [], _, rfl, rfl, rfl, rfl⟩) M (by simp) ((Sg.take (hfs _ _ M (fun y hy => by simp [hy])) hj).src Tryz.underlying24 (fun u hu => fCs_one hone u (List.mem_of_mem_take hu))) (by omega) (by decide) (by omega) ?_
   intro Lo v6 wv6 how M
   rw [Nat.zero_add, List.nil_append] at how
   have M := M.perm List.perm_append_comm
   rw [fCs_take (by omega)] at how
   have ho1 : ∀ f ∈ fs.take j, f.2.oneCell' = true := fun f hf => hone f (List.mem_of_mem_take hf)
   obtain ⟨p6, c6, rfl⟩ := how.shape
   refine ⟨trivial, ?_⟩
   refine go 1 ?_
   refine x_bs1 (cs := [strV x.1, .bool x.2.1, .slice pd x.2.2.length cd]) rfl rfl rfl Tryz.underlying24 sz29 ze29 (Z := [_, _, _]) rfl rfl (by decide) (by decide) rfl rfl rfl ?_
   intro bbs2 wbs2 hbbs2 hwbs2
   have M0 := M.acons hbbs2 hwbs2
   have hslbs2 : Sl wbs2 (.slice (some ⟨bbs2, 0, none⟩) 1 1) 3 1 [strV x.1, .bool x.2.1, .slice pd x.2.2.length cd] := .inr ⟨bbs2, 0, 1, _, _, _, rfl, by omega, M0.at_ 0 rfl, rfl, rfl⟩
   have M := M0.tail
   refine ⟨trivial, ?_⟩
   refine x_apL rfl rfl rfl rfl Tryz.underlying24 sz29 ze29 rfl by29 rfl rfl how (M.perm List.perm_append_comm) (fCs_one ho1) (hslbs2.src Tryz.underlying24 (by intro u hu; simp at hu; rcases hu with rfl | rfl | rfl <;> rfl)) (by omega) (by decide) (by omega) ?_
   intro Lo v7 wv7 how M
   have M := M.perm List.perm_append_comm
   obtain ⟨p7, c7, rfl⟩ := how.shape
   refine ⟨trivial, ?_⟩
   refine go 1 ?_
   refine x_sll j rfl rfl rfl Tryz.underlying24 sz29 rfl rfl rfl hj ?_
   refine x_apL rfl rfl rfl rfl Tryz.underlying24 sz29 ze29 rfl by29 rfl rfl how (M.perm List.perm_append_comm) (fun u hu => by
    rcases List.mem_append.1 hu with hu | hu
    ·exact fCs_one ho1 u hu
    ·simp at hu; rcases hu with rfl | rfl | rfl <;> rfl) ((Sg.drop (hfs _ _ M (fun y hy => by simp [hy])) hj).src Tryz.underlying24 (fun u hu => fCs_one hone u (List.mem_of_mem_drop hu))) (by omega) (by decide) (by omega) ?_
   intro Lo v8 wv8 how M
   have M := M.perm List.perm_append_comm
   obtain ⟨p8, c8, rfl⟩ := how.shape
   refine ⟨trivial, ?_⟩
   refine go 2 ?_
   intro _ M
   refine go 1 ?_
   refine ⟨_, Lo, rfl, ?_, ?_⟩
   ·rw [hW]
    refine ⟨fs.take j ++ (x, .slice pd x.2.2.length cd) :: fs.drop j, by rw [List.map_append, List.map_cons, List.map_take, List.map_drop, hfm], ?_, ?_⟩
    ·have e1 : (fs.take j ++ (x, Value.slice pd x.2.2.length cd) :: fs.drop j).length = j + 1 + (l.length - j) := by simp; omega
     have e2 : fCs (fs.take j ++ (x, Value.slice pd x.2.2.length cd) :: fs.drop j) = (fCs (fs.take j) ++ [strV x.1, .bool x.2.1, .slice pd x.2.2.length cd]) ++ (fCs fs).drop (j * 3) := by rw [fCs_drop (by omega), fCs_app]; simp [fCs]
     rw [e1, e2]
     exact SgK.own how (by decide) (fun y hy => List.mem_append_right _ hy)
    ·intro f hf
     rcases List.mem_append.1 hf with hf | hf
     ·exact ⟨(hfd f (List.mem_of_mem_take hf)).1.mono (fun y hy => List.mem_append_left _ hy), hone f (List.mem_of_mem_take hf)⟩
     ·rcases List.mem_cons.1 hf with rfl | hf
      ·exact ⟨hd.mono (fun y hy => List.mem_append_left _ hy), rfl⟩
      ·exact ⟨(hfd f (List.mem_of_mem_drop hf)).1.mono (fun y hy => List.mem_append_left _ hy), hone f (List.mem_of_mem_drop hf)⟩
   ·have M2 : Sep w00 ((L ++ X) ++ Lo) _ := St.tail (St.tail (St.tail M))
    exact M2.perm (by rw [List.append_assoc, List.append_assoc]; exact List.Perm.append_left _ List.perm_append_comm)
 ·intro hsp1
  have hW := withR_at hj hlt (fun z hz => by have := (List.getElem?_eq_some_iff.1 hz).1; omega)
  refine go 0 ?_
  refine x_bs0 rfl rfl rfl Tryz.underlying24 sz29 ?_
  intro bb wb hbb hwb
  have M := M.acons hbb hwb
  refine ⟨trivial, ?_⟩
  refine go 1 ?_
  refine x_slh j rfl rfl rfl Tryz.underlying24 sz29 rfl rfl rfl (by omega) ?_
  refine x_apL (L := [_]) (cs := []) (nn := 0) rfl rfl rfl rfl Tryz.underlying24 sz29 ze29 rfl by29 rfl rfl (.inr ⟨bb, 0, [], _, rfl, rfl, rfl, rfl⟩) M (by simp) ((Sg.take (hfs _ _ M (fun y hy => by simp [hy])) hj).src Tryz.underlying24 (fun u hu => fCs_one hone u (List.mem_of_mem_take hu))) (by omega) (by decide) (by omega) ?_
  intro Lo v6 wv6 how M
  rw [Nat.zero_add, List.nil_append] at how
  have M := M.perm List.perm_append_comm
  rw [fCs_take (by omega)] at how
  have ho1 : ∀ f ∈ fs.take j, f.2.oneCell' = true := fun f hf => hone f (List.mem_of_mem_take hf)
  obtain ⟨p6, c6, rfl⟩ := how.shape
  refine ⟨trivial, ?_⟩
  refine go 1 ?_
  refine x_bs1 (cs := [strV x.1, .bool x.2.1, .slice pd x.2.2.length cd]) rfl rfl rfl Tryz.underlying24 sz29 ze29 (Z := [_, _, _]) rfl rfl (by decide) (by decide) rfl rfl rfl ?_
  intro bbs4 wbs4 hbbs4 hwbs4
  have M0 := M.acons hbbs4 hwbs4
  have hslbs4 : Sl wbs4 (.slice (some ⟨bbs4, 0, none⟩) 1 1) 3 1 [strV x.1, .bool x.2.1, .slice pd x.2.2.length cd] := .inr ⟨bbs4, 0, 1, _, _, _, rfl, by omega, M0.at_ 0 rfl, rfl, rfl⟩
  have M := M0.tail
  refine ⟨trivial, ?_⟩
  refine x_apL rfl rfl rfl rfl Tryz.underlying24 sz29 ze29 rfl by29 rfl rfl how (M.perm List.perm_append_comm) (fCs_one ho1) (hslbs4.src Tryz.underlying24 (by intro u hu; simp at hu; rcases hu with rfl | rfl | rfl <;> rfl)) (by omega) (by decide) (by omega) ?_
  intro Lo v7 wv7 how M
  have M := M.perm List.perm_append_comm
  obtain ⟨p7, c7, rfl⟩ := how.shape
  refine ⟨trivial, ?_⟩
  refine go 1 ?_
  refine x_sll j rfl rfl rfl Tryz.underlying24 sz29 rfl rfl rfl hj ?_
  refine x_apL rfl rfl rfl rfl Tryz.underlying24 sz29 ze29 rfl by29 rfl rfl how (M.perm List.perm_append_comm) (fun u hu => by
   rcases List.mem_append.1 hu with hu | hu
   ·exact fCs_one ho1 u hu
   ·simp at hu; rcases hu with rfl | rfl | rfl <;> rfl) ((Sg.drop (hfs _ _ M (fun y hy => by simp [hy])) hj).src Tryz.underlying24 (fun u hu => fCs_one hone u (List.mem_of_mem_drop hu))) (by omega) (by decide) (by omega) ?_
  intro Lo v8 wv8 how M
  have M := M.perm List.perm_append_comm
  obtain ⟨p8, c8, rfl⟩ := how.shape
  refine ⟨trivial, ?_⟩
  refine go 2 ?_
  intro _ M
  refine go 1 ?_
  refine ⟨_, Lo, rfl, ?_, ?_⟩
  ·rw [hW]
   refine ⟨fs.take j ++ (x, .slice pd x.2.2.length cd) :: fs.drop j, by rw [List.map_append, List.map_cons, List.map_take, List.map_drop, hfm], ?_, ?_⟩
   ·have e1 : (fs.take j ++ (x, Value.slice pd x.2.2.length cd) :: fs.drop j).length = j + 1 + (l.length - j) := by simp; omega
    have e2 : fCs (fs.take j ++ (x, Value.slice pd x.2.2.length cd) :: fs.drop j) = (fCs (fs.take j) ++ [strV x.1, .bool x.2.1, .slice pd x.2.2.length cd]) ++ (fCs fs).drop (j * 3) := by rw [fCs_drop (by omega), fCs_app]; simp [fCs]
    rw [e1, e2]
    exact SgK.own how (by decide) (fun y hy => List.mem_append_right _ hy)
   ·intro f hf
    rcases List.mem_append.1 hf with hf | hf
    ·exact ⟨(hfd f (List.mem_of_mem_take hf)).1.mono (fun y hy => List.mem_append_left _ hy), hone f (List.mem_of_mem_take hf)⟩
    ·rcases List.mem_cons.1 hf with rfl | hf
     ·exact ⟨hd.mono (fun y hy => List.mem_append_left _ hy), rfl⟩
     ·exact ⟨(hfd f (List.mem_of_mem_drop hf)).1.mono (fun y hy => List.mem_append_left _ hy), hone f (List.mem_of_mem_drop hf)⟩
  ·have M2 : Sep w00 ((L ++ X) ++ Lo) _ := St.tail (St.tail (St.tail M))
   exact M2.perm (by rw [List.append_assoc, List.append_assoc]; exact List.Perm.append_left _ List.perm_append_comm)

end Go.Proofs.YtigfbpbnohkokaaGreat

namespace Go.Proofs.YtigfbpbnohkokaaGreat
open Go Go.Fw Go.RowKit Go.Proofs
set_option linter.unusedVariables false
set_option linter.unusedSimpArgs false
set_option maxRecDepth 100000
set_option maxHeartbeats 4000000

-- valise/valiseref16.Of
theorem rof_c {w00 w0 : World} {X : List (Nat × Obj)} {v : Value} {l : List Raw} (M : Sep w00 X w0) (h : FilesAt w00 v l) (hl : l.length ≤ 200) : Ret Tryz.prog 12 #[v] w0 fun r w' => ∃ u Lr, r = .tuple #[.agg #[u], .int .i64 (ofL l).2] ∧ FilesK w00 Lr u (ofL l).1 ∧ Sep w00 (Lr ++ X) w' := by
 obtain ⟨pv, cv, rfl⟩ := h.shape
 refine Ret.of_W Tryz.func12 rfl Tryz.ntmps12 rfl ?_
 refine go 1 ?_
 intro bal1 _ M
 refine go 2 ?_
 intro bal2 _ M
 refine go 1 ?_
 intro _ M
 refine go 0 ?_
 refine W.loop (σ := Nat) (fun j => [(0, _), (2, _), (4, _), (5, .int .i64 ((j : Nat) : Int))]) (fun j w => j ≤ l.length ∧ (∀ x ∈ l.take j, singleR x = 0) ∧ Sep w00 ([(bal2, .cells [.slice none 0 0].toArray 31 (0, 0)), (bal1, .cells [.slice none 0 0].toArray 31 (0, 0))] ++ X) w) (fun j => l.length - j) 0 ⟨rfl, rfl, rfl, rfl, trivial⟩ ⟨Nat.zero_le _, by simp, M⟩ ?_
 rintro j w ⟨hj, hok, M⟩
 refine cnd 2 ?_ ?_
 ·intro hco1
  obtain ⟨x, hx⟩ := get_lt (l := l) (q := j) (by omega)
  obtain ⟨bb, off, rfl, _⟩ := (h.new M.frm).blk (j := j) (by omega)
  obtain ⟨pd, cd, hrow, _⟩ := (h.new M.frm).row hx
  refine go 0 ?_
  refine x_ia j rfl rfl rfl Tryz.underlying24 sz29 rfl rfl rfl (by omega) ?_
  refine go 0 ?_
  refine x_ld rfl rfl rfl Tryz.underlying9 rfl rfl (RowAt.cell hrow (j := 0) rfl) ?_
  refine x_call rfl rfl rfl rfl rfl en31 (rsplit_c) ?_
  rintro r_ w1 ⟨v1, L1, rfl, M1, hs1⟩
  have M := M.grow M1
  have hrow := RowAt.new hrow M1.frm
  obtain ⟨p1, c1, rfl, hcap1⟩ := hs1.shape2 (by decide)
  refine ⟨trivial, ?_⟩
  refine spl 1 33 ?_ ?_
  ·intro hsp1
   refine go 2 ?_
   intro _ M
   refine go 1 ?_
   have hR := ofL_at hx hok (show singleR x = 8 by unfold singleR; rw [if_neg (fun e => hsp1 e.1)]) (by decide)
   rw [hR]; exact ⟨_, [], rfl, nilK, St.dropL (L' := [_, _]) M.dropR⟩
  ·intro hsp1
   refine cnd 2 ?_ ?_
   ·intro hco3
    refine go 2 ?_
    intro _ M
    refine go 1 ?_
    have hR := ofL_at hx hok (show singleR x = 8 by unfold singleR; rw [if_neg (fun e => e.2 (List.length_eq_zero_iff.1 (by omega)))]) (by decide)
    rw [hR]; exact ⟨_, [], rfl, nilK, St.dropL (L' := [_, _]) M.dropR⟩
   ·intro hco3
    have hn0 : splitN x.1 ≠ [] := fun e => hco3 (by rw [e]; rfl)
    refine go 0 ?_
    refine x_ia j rfl rfl rfl Tryz.underlying24 sz29 rfl rfl rfl (by omega) ?_
    refine go 0 ?_
    refine x_ld rfl rfl rfl Tryz.underlying4 rfl rfl (RowAt.cell hrow (j := 1) rfl) ?_
    refine spl 0 44 ?_ ?_
    ·intro hsp2
     refine go 0 ?_
     refine x_ia j rfl rfl rfl Tryz.underlying24 sz29 rfl rfl rfl (by omega) ?_
     refine go 0 ?_
     refine x_ld rfl rfl rfl Tryz.underlying27 rfl rfl (RowAt.cell hrow (j := 2) rfl) ?_
     refine cnd 2 ?_ ?_
     ·intro hco4
      refine go 2 ?_
      intro _ M
      refine go 1 ?_
      have hR := ofL_at hx hok (show singleR x = 16 by unfold singleR; rw [if_pos ⟨hsp1, hn0⟩, if_pos ⟨hsp2, fun e => by rw [e] at hco4; simp at hco4⟩]) (by decide)
      rw [hR]; exact ⟨_, [], rfl, nilK, St.dropL (L' := [_, _]) M.dropR⟩
     ·intro hco4
      have hd0 : x.2.2 = [] := List.length_eq_zero_iff.1 (by omega)
      refine go 0 ?_
      refine x_ia j rfl rfl rfl Tryz.underlying24 sz29 rfl rfl rfl (by omega) ?_
      refine go 0 ?_
      refine x_ld rfl rfl rfl Tryz.underlying27 rfl rfl (RowAt.cell hrow (j := 2) rfl) ?_
      refine cnd 2 ?_ ?_
      ·intro hco5
       refine go 2 ?_
       intro _ M
       refine go 1 ?_
       have hR := ofL_at hx hok (show singleR x = 3 by unfold singleR; rw [if_pos ⟨hsp1, hn0⟩, if_neg (fun e => e.2 hd0), if_pos (by omega)]) (by decide)
       rw [hR]; exact ⟨_, [], rfl, nilK, St.dropL (L' := [_, _]) M.dropR⟩
      ·intro hco5
       have hsg : singleR x = 0 := by unfold singleR; rw [if_pos ⟨hsp1, hn0⟩, if_neg (fun e => e.2 hd0), if_neg (by omega)]
       refine go 0 ?_
       refine x_add _ rfl rfl rfl rfl rfl (wadd (by omega) (by omega)) ?_
       refine go 0 ?_
       exact At.back (j + 1) ⟨rfl, rfl, rfl, rfl, trivial⟩ ⟨by omega, fun z hz => by
        rw [take_mem hx] at hz
        rcases List.mem_append.1 hz with hz | hz
        ·exact hok z hz
        ·rw [List.mem_singleton.1 hz]; exact hsg, M.dropR⟩ (by first | omega | (simp only; omega) | (simp; done) | (simp; omega))
    ·intro hsp2
     refine go 0 ?_
     refine x_ia j rfl rfl rfl Tryz.underlying24 sz29 rfl rfl rfl (by omega) ?_
     refine go 0 ?_
     refine x_ld rfl rfl rfl Tryz.underlying27 rfl rfl (RowAt.cell hrow (j := 2) rfl) ?_
     refine cnd 2 ?_ ?_
     ·intro hco7
      refine go 2 ?_
      intro _ M
      refine go 1 ?_
      have hR := ofL_at hx hok (show singleR x = 3 by unfold singleR; rw [if_pos ⟨hsp1, hn0⟩, if_neg (fun e => by have := e.1; rw [hsp2] at this; cases this), if_pos (by omega)]) (by decide)
      rw [hR]; exact ⟨_, [], rfl, nilK, St.dropL (L' := [_, _]) M.dropR⟩
     ·intro hco7
      have hsg : singleR x = 0 := by unfold singleR; rw [if_pos ⟨hsp1, hn0⟩, if_neg (fun e => by have := e.1; rw [hsp2] at this; cases this), if_neg (by omega)]
      refine go 0 ?_
      refine x_add _ rfl rfl rfl rfl rfl (wadd (by omega) (by omega)) ?_
      refine go 0 ?_
      exact At.back (j + 1) ⟨rfl, rfl, rfl, rfl, trivial⟩ ⟨by omega, fun z hz => by
       rw [take_mem hx] at hz
       rcases List.mem_append.1 hz with hz | hz
       ·exact hok z hz
       ·rw [List.mem_singleton.1 hz]; exact hsg, M.dropR⟩ (by first | omega | (simp only; omega) | (simp; done) | (simp; omega))
 ·intro hco1
  have hj2 : j = l.length := by omega
  subst hj2
  rw [List.take_length] at hok
  have hf := firstR_ok hok
  have hnm : ∀ y ∈ l, y.1.length ≤ 2000 := fun y hy => by have := splitE_len (single_ok (hok y hy)).1; omega
  have M : Sep w00 ([(bal2, .cells [.slice none 0 0].toArray 31 (0, 0)), (bal1, .cells [.slice none 0 0].toArray 31 (0, 0))] ++ ([] ++ X)) w := by simpa using M
  refine go 0 ?_
  refine W.loop (σ := Nat × Value × List (Nat × Obj)) (fun q => [(0, _), (2, _), (4, _), (8, .int .i64 ((q.1 : Nat) : Int))]) (fun q w => q.1 ≤ l.length ∧ ((l.take q.1).map (·.1)).Nodup ∧ FilesK w00 q.2.2 q.2.1 ((l.take q.1).foldl withR []) ∧ Sep w00 ([(bal2, .cells [q.2.1].toArray 31 (0, 0)), (bal1, .cells [.slice none 0 0].toArray 31 (0, 0))] ++ (q.2.2 ++ X)) w) (fun q => l.length - q.1) (0, .slice none 0 0, []) ⟨rfl, rfl, rfl, rfl, trivial⟩ ⟨Nat.zero_le _, by simp, nilK, M⟩ ?_
  rintro ⟨i, u, L2⟩ w ⟨hi, hnd, hu, M⟩
  simp only at hi hnd hu M
  obtain ⟨pu, cu, rfl⟩ := (hu.at_ M (fun y hy => List.mem_append_right _ (List.mem_append_left _ hy))).shape
  have hflen : ((l.take i).foldl withR []).length = i := by rw [fold_len, List.length_take]; omega
  refine cnd 2 ?_ ?_
  ·intro hco8
   obtain ⟨x, hx⟩ := get_lt (l := l) (q := i) (by omega)
   obtain ⟨bb, off, rfl, _⟩ := h.blk (j := i) (by omega)
   obtain ⟨pd, cd, hrow0, hbd⟩ := h.row hx
   refine go 0 ?_
   refine W.regD (by kernel_rfl) #[0, 0, 0, 6, 14, 30, 63, 127] [(0, false), (1, false), (2, false), (3, false), (4, false), (5, false), (6, true), (7, false)] (by kernel_rfl) ?_
   intro K wD1 hK hwD1
   have M := M.drew hwD1
   have hrow := RowAt.new hrow0 M.frm
   refine go 1 ?_
   refine x_ia i rfl rfl rfl Tryz.underlying24 sz29 rfl rfl rfl (by omega) ?_
   refine go 0 ?_
   refine x_ld rfl rfl rfl Tryz.underlying9 rfl rfl (RowAt.cell hrow (j := 0) rfl) ?_
   refine x_call rfl rfl rfl rfl rfl en32 (at_c (hu.at_ M (fun y hy => List.mem_append_right _ (List.mem_append_left _ hy))) (by omega)) ?_
   rintro r_ w2 ⟨rfl, hn2⟩
   have M := M.new hn2
   have hac := atR_cases ((l.take i).foldl withR []) x.1
   refine pnd ?_
   refine cnd 1 ?_ ?_
   ·intro hco9
    refine go 2 ?_
    intro _ M
    refine go 1 ?_
    have hdup : ¬ (l.map (·.1)).Nodup := by
     rcases hac with ⟨k, y, a1, a2, _⟩ | ⟨_, a2⟩
     ·exact dup_step hx ⟨y, fold_mem.1 (List.mem_of_getElem? a1), a2⟩
     ·omega
    have hR := ofL_2 hf hdup
    rw [hR]; exact ⟨_, [], rfl, nilK, St.dropL (St.dropL (L' := [_, _]) M)⟩
   ·intro hco9
    have hno : ∀ y ∈ l.take i, y.1 ≠ x.1 := by
     rcases hac with ⟨k, y, a1, a2, a3, _⟩ | ⟨a1, _⟩
     ·omega
     ·exact fun y hy => a1 y (fold_mem.2 hy)
    refine go 0 ?_
    refine W.regD (by kernel_rfl) #[0, 0, 0, 6, 14, 31, 63] [(0, false), (1, false), (2, false), (3, false), (4, false), (5, true), (6, true)] (by kernel_rfl) ?_
    intro K wD2 hK hwD2
    have M := M.drew hwD2
    have hrow := RowAt.new hrow0 M.frm
    refine go 1 ?_
    refine x_ia i rfl rfl rfl Tryz.underlying24 sz29 rfl rfl rfl (by omega) ?_
    refine x_ldA [_, _, _] rfl rfl rfl Tryz.underlying29 rfl sz29 rfl rfl hrow ?_
    refine x_call rfl rfl rfl rfl rfl en33 (with_c (x := x) (St.inn2 (F := [_, _]) M) hu (SgK.old hbd) (by omega) (fun y hy => hnm y (List.mem_of_mem_take (fold_mem.1 hy))) (hnm x (List.mem_of_getElem? hx))) ?_
    rintro r_ w3 ⟨u2, L3, rfl, hu2, M⟩
    have M := M.out2 [_, _]
    obtain ⟨pu2, cu2, rfl⟩ := (hu2.at_ M (fun y hy => List.mem_append_right _ (List.mem_append_left _ hy))).shape
    refine pnd ?_
    refine x_st [_] _ rfl rfl rfl sz31 rfl rfl rfl rfl (by first | exact M.at_ 0 rfl | exact M.at_ 1 rfl | exact M.at_ 2 rfl | exact M.at_ 3 rfl | exact M.at_ 4 rfl | exact M.at_ 5 rfl | exact M.at_ 6 rfl | exact M.at_ 7 rfl) rfl rfl rfl ?_
    intro wst8 hwst8
    have M := by first | exact M.put 0 rfl hwst8 | exact M.put 1 rfl hwst8 | exact M.put 2 rfl hwst8 | exact M.put 3 rfl hwst8 | exact M.put 4 rfl hwst8 | exact M.put 5 rfl hwst8 | exact M.put 6 rfl hwst8 | exact M.put 7 rfl hwst8
    refine pnd ?_
    refine go 0 ?_
    refine x_add _ rfl rfl rfl rfl rfl (wadd (by omega) (by omega)) ?_
    refine go 0 ?_
    exact At.back ((i + 1, _, L2 ++ L3)) ⟨rfl, rfl, rfl, rfl, trivial⟩ ⟨by omega, nodup_step hnd hx hno, by simp only; rw [take_mem hx, List.foldl_append]; exact hu2, M⟩ (by first | omega | (simp only; omega) | (simp; done) | (simp; omega))
  ·intro hco8
   have hi2 : i = l.length := by omega
   subst hi2
   rw [List.take_length] at hnd hu M hflen
   refine go 0 ?_
   refine W.loop (σ := Nat) (fun a => [(0, _), (2, _), (4, _), (9, .int .i64 ((a : Nat) : Int))]) (fun a w => a ≤ l.length ∧ (∀ i < a, ∀ k, ¬ BadAt l i k) ∧ Sep w00 ([(bal2, .cells [.slice pu (l.foldl withR []).length cu].toArray 31 (0, 0)), (bal1, .cells [.slice none 0 0].toArray 31 (0, 0))] ++ (L2 ++ X)) w) (fun a => l.length - a) 0 ⟨rfl, rfl, rfl, rfl, trivial⟩ ⟨Nat.zero_le _, fun i hi => by omega, M⟩ ?_
   rintro a w ⟨ha, hnb, M⟩
   refine cnd 2 ?_ ?_
   ·intro hco10
    obtain ⟨x, hx⟩ := get_lt (l := l) (q := a) (by omega)
    obtain ⟨bb, off, rfl, _⟩ := h.blk (j := a) (by omega)
    obtain ⟨px, cx, hrx0, _⟩ := h.row hx
    refine go 0 ?_
    refine W.loop (σ := Nat) (fun b => [(0, _), (2, _), (4, _), (9, _), (10, .int .i64 ((b : Nat) : Int))]) (fun b w => b ≤ l.length ∧ (∀ k < b, ¬ BadAt l a k) ∧ Sep w00 ([(bal2, .cells [.slice pu (l.foldl withR []).length cu].toArray 31 (0, 0)), (bal1, .cells [.slice none 0 0].toArray 31 (0, 0))] ++ (L2 ++ X)) w) (fun b => l.length - b) 0 ⟨rfl, rfl, rfl, rfl, rfl, trivial⟩ ⟨Nat.zero_le _, fun i hi => by omega, M⟩ ?_
    rintro b w ⟨hb, hnk, M⟩
    refine cnd 2 ?_ ?_
    ·intro hco11
     obtain ⟨y, hy⟩ := get_lt (l := l) (q := b) (by omega)
     obtain ⟨py, cy, hry0, _⟩ := h.row hy
     refine go 0 ?_
     refine W.regD (by kernel_rfl) #[0, 0, 3, 7, 15, 15, 63, 127, 255, 511, 1023, 2047, 4095, 4095, 16383, 32767, 65535, 4095, 4095, 397311, 921599, 1970175, 4194303, 8388607] [(0, false), (1, false), (2, false), (3, false), (4, false), (5, false), (6, false), (7, false), (8, false), (9, false), (10, false), (11, false), (12, false), (13, false), (14, false), (15, false), (16, false), (17, false), (18, false), (19, false), (20, false), (21, false), (22, true), (23, false)] (by kernel_rfl) ?_
     intro K wD3 hK hwD3
     have M := M.drew hwD3
     have hrx := RowAt.new hrx0 M.frm
     have hry := RowAt.new hry0 M.frm
     refine spl 1 98 ?_ ?_
     ·intro hsp3
      refine go 0 ?_
      refine x_ia a rfl rfl rfl Tryz.underlying24 sz29 rfl rfl rfl (by omega) ?_
      refine go 0 ?_
      refine x_ld rfl rfl rfl Tryz.underlying4 rfl rfl (RowAt.cell hrx (j := 1) rfl) ?_
      refine spl 1 106 ?_ ?_
      ·intro hsp4
       refine go 0 ?_
       refine x_ia b rfl rfl rfl Tryz.underlying24 sz29 rfl rfl rfl (by omega) ?_
       refine go 0 ?_
       refine x_ld rfl rfl rfl Tryz.underlying9 rfl rfl (RowAt.cell hry (j := 0) rfl) ?_
       refine go 0 ?_
       refine x_ia a rfl rfl rfl Tryz.underlying24 sz29 rfl rfl rfl (by omega) ?_
       refine go 0 ?_
       refine x_ld rfl rfl rfl Tryz.underlying9 rfl rfl (RowAt.cell hrx (j := 0) rfl) ?_
       refine x_call rfl rfl rfl rfl rfl en34 (runder_c) ?_
       rintro r wcall4 ⟨rfl, hncall4⟩
       have M := M.new hncall4
       refine pnd ?_
       refine cnd 0 ?_ ?_
       ·intro hco12
        refine go 2 ?_
        intro _ M
        refine go 1 ?_
        have hR := ofL_3 hf hnd ⟨a, b, x, y, hx, hy, by omega, hsp4, hco12⟩
        rw [hR]; exact ⟨_, [], rfl, nilK, St.dropL (St.dropL (L' := [_, _]) M)⟩
       ·intro hco12
        refine go 0 ?_
        refine x_add _ rfl rfl rfl rfl rfl (wadd (by omega) (by omega)) ?_
        refine go 0 ?_
        exact At.back (b + 1) ⟨rfl, rfl, rfl, rfl, rfl, trivial⟩ ⟨by omega, badAt_step hnk (by
         intro hbd_
         obtain ⟨x_, y_, g1, g2, g3, g4, g5⟩ := hbd_
         rw [hx] at g1; rw [hy] at g2; cases g1; cases g2
         rw [hco12] at g5; cases g5), M⟩ (by first | omega | (simp only; omega) | (simp; done) | (simp; omega))
      ·intro hsp4
       refine go 0 ?_
       refine x_add _ rfl rfl rfl rfl rfl (wadd (by omega) (by omega)) ?_
       refine go 0 ?_
       exact At.back (b + 1) ⟨rfl, rfl, rfl, rfl, rfl, trivial⟩ ⟨by omega, badAt_step hnk (by
        intro hbd_
        obtain ⟨x_, y_, g1, g2, g3, g4, g5⟩ := hbd_
        rw [hx] at g1; rw [hy] at g2; cases g1; cases g2
        rw [hsp4] at g4; cases g4), M⟩ (by first | omega | (simp only; omega) | (simp; done) | (simp; omega))
     ·intro hsp3
      refine go 0 ?_
      refine x_add _ rfl rfl rfl rfl rfl (wadd (by omega) (by omega)) ?_
      refine go 0 ?_
      exact At.back (b + 1) ⟨rfl, rfl, rfl, rfl, rfl, trivial⟩ ⟨by omega, badAt_step hnk (by
       intro hbd_
       obtain ⟨x_, y_, g1, g2, g3, g4, g5⟩ := hbd_
       rw [hx] at g1; rw [hy] at g2; cases g1; cases g2
       omega), M⟩ (by first | omega | (simp only; omega) | (simp; done) | (simp; omega))
    ·intro hco11
     refine go 0 ?_
     refine x_add _ rfl rfl rfl rfl rfl (wadd (by omega) (by omega)) ?_
     refine go 0 ?_
     exact At.back (a + 1) ⟨rfl, rfl, rfl, rfl, trivial⟩ ⟨by omega, badAt_row hnb (fun k hk => hnk k (by omega)), M⟩ (by first | omega | (simp only; omega) | (simp; done) | (simp; omega))
   ·intro hco10
    have ha2 : a = l.length := by omega
    subst ha2
    have hnb2 : ¬ badL l := fun ⟨i, k, hb⟩ => hnb i (by obtain ⟨_, _, h1, _⟩ := hb; exact (List.getElem?_eq_some_iff.1 h1).1) k hb
    have hR0 := ofL_4 hf hnd hnb2
    have hsE : ∀ y ∈ l, splitE y.1 = 0 := fun y hy => (single_ok (hok y hy)).1
    refine go 0 ?_
    refine W.loop (σ := Nat × Value × List (Nat × Obj)) (fun q => [(0, _), (2, _), (4, _), (11, .int .i64 ((q.1 : Nat) : Int))]) (fun q w => q.1 ≤ l.length ∧ FilesK w00 q.2.2 q.2.1 (fillL (l.take q.1) (l.foldl withR [])) ∧ Sep w00 ([(bal2, .cells [q.2.1].toArray 31 (0, 0)), (bal1, .cells [.slice none 0 0].toArray 31 (0, 0))] ++ (q.2.2 ++ X)) w) (fun q => l.length - q.1) (0, _, L2) ⟨rfl, rfl, rfl, rfl, trivial⟩ ⟨Nat.zero_le _, hu, M⟩ ?_
    rintro ⟨i, u, L3⟩ w ⟨hi, hu, M⟩
    simp only at hi hu M
    obtain ⟨pu, cu, rfl⟩ := (hu.at_ M (fun y hy => List.mem_append_right _ (List.mem_append_left _ hy))).shape
    have hfl : (fillL (l.take i) (l.foldl withR [])).length ≤ l.length + 8 * i := by
     have := fillL_len (l.take i) (l.foldl withR [])
     rw [fold_len, List.length_take] at this; omega
    have hfn : ∀ y ∈ fillL (l.take i) (l.foldl withR []), y.1.length ≤ 2000 := fillL_names (fun z hz => hsE z (List.mem_of_mem_take hz)) (fun y hy => hnm y (fold_mem.1 hy))
    refine cnd 2 ?_ ?_
    ·intro hco15
     obtain ⟨x, hx⟩ := get_lt (l := l) (q := i) (by omega)
     obtain ⟨bb, off, rfl, _⟩ := h.blk (j := i) (by omega)
     obtain ⟨pd, cd, hrow0, _⟩ := h.row hx
     have hrow := RowAt.new hrow0 M.frm
     have hP := POK_split (hsE x (List.mem_of_getElem? hx))
     have hn0 := (single_ok (hok x (List.mem_of_getElem? hx))).2.1
     have hsl := splitN_len x.1
     have hlp := List.length_pos_iff.2 hn0
     refine go 0 ?_
     refine x_ia i rfl rfl rfl Tryz.underlying24 sz29 rfl rfl rfl (by omega) ?_
     refine go 0 ?_
     refine x_ld rfl rfl rfl Tryz.underlying9 rfl rfl (RowAt.cell hrow (j := 0) rfl) ?_
     refine x_call rfl rfl rfl rfl rfl en31 (rsplit_c) ?_
     rintro r_ w5 ⟨v5, L5, rfl, M5, hs5⟩
     have M := M.grow M5
     obtain ⟨p5, c5, rfl, hcap5⟩ := hs5.shape2 (by decide)
     have M : Sep w00 ([(bal2, .cells [.slice pu (fillL (l.take i) (l.foldl withR [])).length cu].toArray 31 (0, 0)), (bal1, .cells [.slice none 0 0].toArray 31 (0, 0))] ++ (L3 ++ (X ++ L5))) w5 := by simpa using M
     refine ⟨trivial, ?_⟩
     refine go 0 ?_
     refine W.loop (σ := Nat × Value × List (Nat × Obj)) (fun q => [(0, _), (2, _), (4, _), (11, _), (12, _), (14, .int .i64 ((q.1 + 1 : Nat) : Int))]) (fun q w => q.1 + 1 ≤ (splitN x.1).length ∧ FilesK w00 q.2.2 q.2.1 (fillX (splitN x.1) (fillL (l.take i) (l.foldl withR [])) q.1) ∧ Sep w00 ([(bal2, .cells [q.2.1].toArray 31 (0, 0)), (bal1, .cells [.slice none 0 0].toArray 31 (0, 0))] ++ (q.2.2 ++ (X ++ L5))) w) (fun q => (splitN x.1).length - q.1) (0, _, L3) ⟨rfl, rfl, rfl, rfl, rfl, rfl, trivial⟩ ⟨by simp only; omega, hu, M⟩ ?_
     rintro ⟨k, u2, L4⟩ w ⟨hk, hu2, M⟩
     simp only at hk hu2 M
     obtain ⟨pu2, cu2, rfl⟩ := (hu2.at_ M (fun y hy => List.mem_append_right _ (List.mem_append_left _ hy))).shape
     have hxl := fillX_len (N := splitN x.1) (t := fillL (l.take i) (l.foldl withR [])) k
     have hxn := fillX_names (k := k) hP hfn
     have hPk := hP.take (k + 1)
     refine cnd 2 ?_ ?_
     ·intro hco16
      refine go 0 ?_
      refine W.regD (by kernel_rfl) #[0, 0, 0, 6, 14, 31, 63] [(0, false), (1, false), (2, false), (3, false), (4, true), (5, true), (6, false)] (by kernel_rfl) ?_
      intro K wD4 hK hwD4
      have M := M.drew hwD4
      refine go 1 ?_
      refine x_slh (k + 1) rfl rfl rfl Tryz.underlying47 sz9 rfl rfl (by omega) (by omega) ?_
      refine x_call rfl rfl rfl rfl rfl en35 (rtext_c (strsO_at (strsO_take hs5 (j := k + 1) (by omega)) M (fun y hy => List.mem_append_right _ (List.mem_append_right _ (List.mem_append_right _ hy)))) (by simp; omega) (fun y hy => by have := allOK_len hPk.2.1 y hy; omega)) ?_
      rintro r_ w6 ⟨rfl, hn6⟩
      have M := M.new hn6
      refine pnd ?_
      refine x_call rfl rfl rfl rfl rfl en32 (at_c (hu2.at_ M (fun y hy => List.mem_append_right _ (List.mem_append_left _ hy))) (by omega)) ?_
      rintro r_ w7 ⟨rfl, hn7⟩
      have M := M.new hn7
      refine pnd ?_
      refine cnd 1 ?_ ?_
      ·intro hco17
       have hfs := fillX_no (N := splitN x.1) (t := fillL (l.take i) (l.foldl withR [])) (k := k) (by omega)
       refine go 0 ?_
       refine W.regD (by kernel_rfl) #[0, 0, 0, 6, 14, 30, 63, 127] [(0, false), (1, false), (2, false), (3, false), (4, true), (5, false), (6, true), (7, true)] (by kernel_rfl) ?_
       intro K wD5 hK hwD5
       have M := M.drew hwD5
       refine go 1 ?_
       refine x_slh (k + 1) rfl rfl rfl Tryz.underlying47 sz9 rfl rfl (by omega) (by omega) ?_
       refine x_call rfl rfl rfl rfl rfl en35 (rtext_c (strsO_at (strsO_take hs5 (j := k + 1) (by omega)) M (fun y hy => List.mem_append_right _ (List.mem_append_right _ (List.mem_append_right _ hy)))) (by simp; omega) (fun y hy => by have := allOK_len hPk.2.1 y hy; omega)) ?_
       rintro r_ w8 ⟨rfl, hn8⟩
       have M := M.new hn8
       refine pnd ?_
       refine go 1 ?_
       refine x_call rfl rfl rfl rfl rfl en33 (with_c (x := (joinS ((splitN x.1).take (k + 1)), true, [])) (St.inn2 (F := [_, _]) M) hu2 (SgK.own (L' := []) OwL.nil (by decide) (by simp)) (by omega) hxn (by have := hPk.2.2; simp only; omega)) ?_
       rintro r_ w9 ⟨u3, L6, rfl, hu3, M⟩
       have M := M.out2 [_, _]
       obtain ⟨pu3, cu3, rfl⟩ := (hu3.at_ M (fun y hy => List.mem_append_right _ (List.mem_append_left _ hy))).shape
       refine pnd ?_
       refine x_st [_] _ rfl rfl rfl sz31 rfl rfl rfl rfl (by first | exact M.at_ 0 rfl | exact M.at_ 1 rfl | exact M.at_ 2 rfl | exact M.at_ 3 rfl | exact M.at_ 4 rfl | exact M.at_ 5 rfl | exact M.at_ 6 rfl | exact M.at_ 7 rfl) rfl rfl rfl ?_
       intro wst10 hwst10
       have M := by first | exact M.put 0 rfl hwst10 | exact M.put 1 rfl hwst10 | exact M.put 2 rfl hwst10 | exact M.put 3 rfl hwst10 | exact M.put 4 rfl hwst10 | exact M.put 5 rfl hwst10 | exact M.put 6 rfl hwst10 | exact M.put 7 rfl hwst10
       refine pnd ?_
       refine go 0 ?_
       refine x_add _ rfl rfl rfl rfl rfl (wadd (by omega) (by omega)) ?_
       refine go 0 ?_
       exact At.back ((k + 1, _, L4 ++ L6)) ⟨rfl, rfl, rfl, rfl, rfl, rfl, trivial⟩ ⟨by simp only; omega, by simp only; rw [hfs]; exact hu3, M⟩ (by first | omega | (simp only; omega) | (simp; done) | (simp; omega))
      ·intro hco17
       have hfs := fillX_yes (N := splitN x.1) (t := fillL (l.take i) (l.foldl withR [])) (k := k) (by omega)
       refine go 0 ?_
       refine x_add _ rfl rfl rfl rfl rfl (wadd (by omega) (by omega)) ?_
       refine go 0 ?_
       exact At.back ((k + 1, _, L4)) ⟨rfl, rfl, rfl, rfl, rfl, rfl, trivial⟩ ⟨by simp only; omega, by simp only; rw [hfs]; exact hu2, M⟩ (by first | omega | (simp only; omega) | (simp; done) | (simp; omega))
     ·intro hco16
      have hk2 : k = (splitN x.1).length - 1 := by omega
      subst hk2
      rw [← fillL_step hx] at hu2 M
      have M : Sep w00 (([(bal2, .cells [.slice pu2 (fillL (l.take (i + 1)) (l.foldl withR [])).length cu2].toArray 31 (0, 0)), (bal1, .cells [.slice none 0 0].toArray 31 (0, 0))] ++ (L4 ++ X)) ++ L5) w := by simpa only [List.append_assoc] using M
      have M := M.dropR
      refine go 0 ?_
      refine x_add _ rfl rfl rfl rfl rfl (wadd (by omega) (by omega)) ?_
      refine go 0 ?_
      exact At.back ((i + 1, _, L4)) ⟨rfl, rfl, rfl, rfl, trivial⟩ ⟨by simp only; omega, hu2, M⟩ (by first | omega | (simp only; omega) | (simp; done) | (simp; omega))
    ·intro hco15
     have hi2 : i = l.length := by omega
     subst hi2
     rw [List.take_length] at hu M hfl
     refine cnd 3 ?_ ?_
     ·intro hco18
      refine go 2 ?_
      intro _ M
      refine go 1 ?_
      have hR := hR0.trans (if_pos (by omega))
      rw [hR]; exact ⟨_, [], rfl, nilK, St.dropL (St.dropL (L' := [_, _]) M)⟩
     ·intro hco18
      refine go 2 ?_
      intro _ M
      refine go 1 ?_
      have hR := hR0.trans (if_neg (by omega))
      rw [hR]; exact ⟨_, L3, rfl, hu, St.dropL (L' := [_, _]) M⟩

end Go.Proofs.YtigfbpbnohkokaaGreat

namespace Go.Proofs.YtigfbpbnohkokaaGreat
open Go Go.Fw Go.RowKit
set_option linter.unusedVariables false
set_option linter.unusedSimpArgs false

abbrev MetasO (L : List (Nat × Obj)) (v : Value) (ml : List Mt) : Prop := OwL L v 3 ml.length (mCs ml)
theorem metasO_at {L : List (Nat × Obj)} {v : Value} {ml : List Mt} {w : World} (h : MetasO L v ml) (hg : ∀ y ∈ L, w.heap[y.1]? = some y.2) : MetasAt w v ml := .inr ((h.sl (by decide)).get hg)
theorem mCs_snoc (ml : List Mt) (m : Mt) : mCs (ml ++ [m]) = mCs ml ++ [strV m.1, .bool m.2.1, .int .i64 m.2.2] := by simp [mCs]
/-- The base that files make. -/
def baseL (l : List Raw) : BaseF := fun p => (l.find? fun x => decide (x.1 = p) && !x.2.1).map (·.2.2)
theorem baseL_of {l : List Raw} (hn : (l.map (·.1)).Nodup) {x : Raw} (hx : x ∈ l) (hd : x.2.1 = false) : baseL l x.1 = some x.2.2 := by
 unfold baseL
 have : l.find? (fun y => decide (y.1 = x.1) && !y.2.1) = some x := by
  obtain ⟨j, hj, rfl⟩ := List.getElem_of_mem hx
  rw [List.find?_eq_some_iff_getElem]
  refine ⟨by simp [hd], j, hj, rfl, fun i hi => ?_⟩
  have : l[i].1 ≠ l[j].1 := fun e => by
   have e : (l.map (·.1))[i]'(by simp; omega) = (l.map (·.1))[j]'(by simpa using hj) := by simpa using e
   have := (List.getElem_inj hn).1 e
   omega
  simp [this]
 rw [this]; rfl
theorem baseL_at {l : List Raw} {p b : List UInt8} {j : Nat} {x : Raw} (hb : baseL l p = some b) (hx : l[j]? = some x) (hno : ∀ y ∈ l.take j, ¬ (y.1 = p ∧ y.2.1 = false)) (h1 : x.1 = p) (h2 : x.2.1 = false) : x.2.2 = b := by
 unfold baseL at hb
 have : l.find? (fun y => decide (y.1 = p) && !y.2.1) = some x := by
  obtain ⟨hj, rfl⟩ := List.getElem?_eq_some_iff.1 hx
  rw [List.find?_eq_some_iff_getElem]
  refine ⟨by simp [h1, h2], j, hj, rfl, fun i hi => ?_⟩
  have := hno l[i] (List.mem_take_iff_getElem.2 ⟨i, by omega, rfl⟩)
  by_cases e1 : l[i].1 = p
  ·cases e2 : l[i].2.1 with
   | true => simp
   | false => exact absurd ⟨e1, e2⟩ this
  ·simp [e1]
 rw [this] at hb
 exact Option.some.inj hb
theorem baseL_some {l : List Raw} {p b : List UInt8} (hb : baseL l p = some b) (hno : ∀ y ∈ l, ¬ (y.1 = p ∧ y.2.1 = false)) : False := by
 unfold baseL at hb
 have : l.find? (fun y => decide (y.1 = p) && !y.2.1) = none := List.find?_eq_none.2 fun y hy => by
  have := hno y hy
  by_cases e1 : y.1 = p
  ·cases e2 : y.2.1 with
   | true => simp
   | false => exact absurd ⟨e1, e2⟩ this
  ·simp [e1]
 rw [this] at hb; cases hb
end Go.Proofs.YtigfbpbnohkokaaGreat

namespace Go.Proofs.YtigfbpbnohkokaaGreat
open Go Go.Fw Go.RowKit Go.Proofs
set_option linter.unusedVariables false
set_option linter.unusedSimpArgs false
set_option maxRecDepth 100000
set_option maxHeartbeats 4000000

-- valise/valiselaw19.metas
theorem metas_c {w0 : World} {v : Value} {l : List Raw} (h : FilesAt w0 v l) (hl : l.length ≤ 1000) : Ret Tryz.prog 39 #[v] w0 fun r w' => ∃ Lr, MetasO Lr r (l.map metaR) ∧ Sep w0 Lr w' := by
 have M : Sep w0 [] w0 := St.nil w0
 obtain ⟨pv, cv, rfl⟩ := h.shape
 refine Ret.of_W Tryz.func39 rfl Tryz.ntmps39 rfl ?_
 refine go 0 ?_
 refine W.loop (σ := Nat × Value × List (Nat × Obj)) (fun q => [(0, _), (3, q.2.1), (4, .int .i64 ((q.1 : Nat) : Int))]) (fun q w => q.1 ≤ l.length ∧ OwL q.2.2 q.2.1 3 q.1 (mCs ((l.take q.1).map metaR)) ∧ Sep w0 q.2.2 w) (fun q => l.length - q.1) (0, .slice none 0 0, []) ⟨rfl, rfl, rfl, trivial⟩ ⟨Nat.zero_le _, OwL.nil, M⟩ ?_
 rintro ⟨j, u, Lo⟩ w ⟨hj, how, M⟩
 simp only at hj how M
 obtain ⟨pu, cu, rfl⟩ := how.shape
 refine cnd 2 ?_ ?_
 ·intro hco1
  obtain ⟨x, hx⟩ := get_lt (l := l) (q := j) (by omega)
  obtain ⟨bb, off, rfl, _⟩ := (h.new M.frm).blk (j := j) (by omega)
  refine go 0 ?_
  refine W.regD (by kernel_rfl) #[0, 0, 0, 6, 14, 30, 0, 0, 192, 448, 960, 0, 0, 6144, 14336, 30720, 63488, 131070, 262142, 524287, 1048575] [(0, false), (1, false), (2, false), (3, false), (4, false), (5, false), (6, false), (7, false), (8, false), (9, false), (10, false), (11, false), (12, false), (13, false), (14, false), (15, false), (16, false), (17, false), (18, true), (19, true), (20, false)] (by kernel_rfl) ?_
  intro K wD1 hK hwD1
  have M := M.drew hwD1
  obtain ⟨pd, cd, hrow, hbx⟩ := (h.new M.frm).row hx
  refine go 0 ?_
  refine x_ia j rfl rfl rfl Tryz.underlying24 sz29 rfl rfl rfl (by omega) ?_
  refine go 0 ?_
  refine x_ld rfl rfl rfl Tryz.underlying9 rfl rfl (RowAt.cell hrow (j := 0) rfl) ?_
  refine go 0 ?_
  refine x_ia j rfl rfl rfl Tryz.underlying24 sz29 rfl rfl rfl (by omega) ?_
  refine go 0 ?_
  refine x_ld rfl rfl rfl Tryz.underlying4 rfl rfl (RowAt.cell hrow (j := 1) rfl) ?_
  refine go 0 ?_
  refine x_ia j rfl rfl rfl Tryz.underlying24 sz29 rfl rfl rfl (by omega) ?_
  refine go 0 ?_
  refine x_ld rfl rfl rfl Tryz.underlying27 rfl rfl (RowAt.cell hrow (j := 2) rfl) ?_
  refine go 2 ?_
  refine x_bs1 (cs := [strV x.1, .bool x.2.1, .int .i64 (x.2.2.length : Int)]) rfl rfl rfl Tryz.underlying22 sz26 ze26 (Z := [_, _, _]) rfl rfl (by decide) (by decide) rfl rfl rfl ?_
  intro bbs1 wbs1 hbbs1 hwbs1
  have M0 := M.acons hbbs1 hwbs1
  have hslbs1 : Sl wbs1 (.slice (some ⟨bbs1, 0, none⟩) 1 1) 3 1 [strV x.1, .bool x.2.1, .int .i64 (x.2.2.length : Int)] := .inr ⟨bbs1, 0, 1, _, _, _, rfl, by omega, M0.at_ 0 rfl, rfl, rfl⟩
  have M := M0.tail
  refine pnd ?_
  have M : Sep w0 (Lo ++ []) wbs1 := by rw [List.append_nil]; exact M
  refine x_apL rfl rfl rfl rfl Tryz.underlying22 sz26 ze26 rfl by26 rfl rfl how M (mCs_one _) (hslbs1.src Tryz.underlying22 (by intro u hu; simp at hu; rcases hu with rfl | rfl | rfl <;> rfl)) (by omega) (by decide) (by omega) ?_
  intro Lo2 v6 w6 how M
  rw [show [strV x.1, .bool x.2.1, .int .i64 (x.2.2.length : Int)] = [strV (metaR x).1, .bool (metaR x).2.1, .int .i64 (metaR x).2.2] from rfl, ← mCs_snoc, show (l.take j).map metaR ++ [metaR x] = (l.take (j + 1)).map metaR by rw [take_snoc hx, List.map_append]; rfl] at how
  refine pnd ?_
  refine go 0 ?_
  refine x_add _ rfl rfl rfl rfl rfl (wadd (by omega) (by omega)) ?_
  refine go 0 ?_
  exact At.back ((j + 1, v6, Lo2)) ⟨rfl, rfl, rfl, trivial⟩ ⟨by simp only; omega, how, by simpa using M⟩ (by first | omega | (simp only; omega) | (simp; done) | (simp; omega))
 ·intro hco1
  refine go 1 ?_
  have hj2 : j = l.length := by omega
  subst hj2
  rw [List.take_length] at how
  exact ⟨Lo, by show OwL Lo _ 3 (l.map metaR).length _; rw [List.length_map]; exact how, M⟩

end Go.Proofs.YtigfbpbnohkokaaGreat

namespace Go.Proofs.YtigfbpbnohkokaaGreat
open Go Go.Fw Go.RowKit Go.Proofs
set_option linter.unusedVariables false
set_option linter.unusedSimpArgs false
set_option maxRecDepth 100000
set_option maxHeartbeats 4000000
theorem _root_.Go.Fw.Sg.capb {w : World} {a : Option Addr} {n cap m : Nat} {cs : List Value} (h : Sg w (.slice a n cap) m n cs) : n ≤ cap ∨ n = 0 := by
 rcases h with ⟨h1, _⟩ | ⟨h1, h2, _⟩ | ⟨b, off, cap', all, T, fr, h1, h2, _⟩
 ·exact .inr h1
 ·exact .inr h2
 ·cases h1; exact .inl h2

-- (*valise/valiselaw19.shelf).Block
theorem block_c {w00 w0 : World} {bs i : Nat} {v : Value} {l : List Raw} {Lf X : List (Nat × Obj)} {nm b : List UInt8} (M : Sep w00 ((bs, .cells [v, .bool false].toArray 79 (0, 0)) :: (Lf ++ X)) w0) (h : FilesK w00 Lf v l) (hl : l.length ≤ 1000) (hd : ∀ x ∈ l, x.2.2.length ≤ 65536) (hb : baseL l nm = some b) (hi : 4096 * i < b.length) : Ret Tryz.prog 191 #[ptr bs, .agg #[strV nm, .int .i64 (i : Int)]] w0 fun r w' => ∃ Lr, BytesO Lr r ((b.drop (4096 * i)).take 4096) ∧ Sep w00 ((bs, .cells [v, .bool false].toArray 79 (0, 0)) :: (Lf ++ (X ++ Lr))) w' := by
 obtain ⟨pv, cv, rfl⟩ := (h.at_ M (fun y hy => by simp [hy])).shape
 refine Ret.of_W Tryz.func191 rfl Tryz.ntmps191 rfl ?_
 refine go 1 ?_
 intro bbx1 _ M
 refine go 0 ?_
 refine W.loop (σ := Nat) (fun j => [(0, _), (3, _), (5, .int .i64 ((j : Nat) : Int))]) (fun j w => j ≤ l.length ∧ (∀ y ∈ l.take j, ¬ (y.1 = nm ∧ y.2.1 = false)) ∧ Sep w00 ((bbx1, .cells [strV nm, .int .i64 (i : Int)].toArray 187 (0, 0)) :: (bs, .cells [.slice pv l.length cv, .bool false].toArray 79 (0, 0)) :: (Lf ++ X)) w) (fun j => l.length - j) 0 ⟨rfl, rfl, rfl, trivial⟩ ⟨Nat.zero_le _, by simp, M⟩ ?_
 rintro j w ⟨hj, hno, M⟩
 refine cnd 3 ?_ ?_
 ·intro hco1
  obtain ⟨x, hx⟩ := get_lt (l := l) (q := j) (by omega)
  have hxl := List.mem_of_getElem? hx
  have hfa := h.at_ M (fun y hy => List.mem_cons_of_mem _ (List.mem_cons_of_mem _ (List.mem_append_left _ hy)))
  obtain ⟨bb, off, rfl, _⟩ := hfa.blk (j := j) (by omega)
  obtain ⟨pd, cd, hrow, hbx⟩ := hfa.row hx
  have hxd := hd x hxl
  refine go 1 ?_
  refine x_ia j rfl rfl rfl Tryz.underlying24 sz29 rfl rfl rfl (by omega) ?_
  refine go 0 ?_
  refine x_ld rfl rfl rfl Tryz.underlying27 rfl rfl (RowAt.cell hrow (j := 2) rfl) ?_
  refine go 0 ?_
  refine W.regD (by kernel_rfl) #[0, 1, 3, 7, 0, 31, 63, 127, 0, 256, 1023, 2047, 4095, 8191, 16383, 32767, 4095, 131071, 262143, 524287, 1048575, 2097151, 4194303, 8388607, 16777215, 33554431, 67108863, 134217727, 268435455, 536870911, 268435455, 1342177279, 3489660927, 7784628223, 17179869183, 34359738367] [(0, false), (1, false), (2, false), (3, false), (4, false), (5, false), (6, false), (7, false), (8, false), (9, false), (10, false), (11, false), (12, false), (13, false), (14, false), (15, false), (16, false), (17, false), (18, false), (19, false), (20, false), (21, false), (22, false), (23, false), (24, false), (25, false), (26, false), (27, false), (28, false), (29, false), (30, false), (31, false), (32, false), (33, false), (34, false), (35, false)] (by kernel_rfl) ?_
  intro K wD1 hK hwD1
  have M := M.drew hwD1
  have hrow := RowAt.new hrow ((Frm.refl _ _).drew hwD1)
  have hbx := hbx.new ((Frm.refl None' _).drew hwD1)
  refine go 1 ?_
  refine x_ia j rfl rfl rfl Tryz.underlying24 sz29 rfl rfl rfl (by omega) ?_
  refine go 0 ?_
  refine x_ld rfl rfl rfl Tryz.underlying9 rfl rfl (RowAt.cell hrow (j := 0) rfl) ?_
  refine spl 2 35 ?_ ?_
  ·intro hsp1
   refine go 1 ?_
   refine x_ia j rfl rfl rfl Tryz.underlying24 sz29 rfl rfl rfl (by omega) ?_
   refine go 0 ?_
   refine x_ld rfl rfl rfl Tryz.underlying4 rfl rfl (RowAt.cell hrow (j := 1) rfl) ?_
   refine x_not (!x.2.1) rfl rfl rfl rfl rfl ?_
   refine spl 0 46 ?_ ?_
   ·intro hsp2
    have hd0 : x.2.1 = false := by simpa using hsp2
    have hxb := baseL_at hb hx hno hsp1 hd0
    rw [← hxb] at hi
    have hq4 : (((x.2.2.length + 4095) / 4096 : Nat) : Int) > (i : Int) := by omega
    refine go 1 ?_
    refine x_geq true rfl rfl rfl rfl rfl (decide_eq_true (by omega)) ?_
    refine go 2 ?_
    refine x_add ((x.2.2.length + 4095 : Nat) : Int) rfl rfl rfl rfl rfl (by rw [wadd (by omega) (by omega)]; omega) ?_
    refine x_quo (((x.2.2.length + 4095) / 4096 : Nat) : Int) rfl rfl rfl rfl rfl (by decide) (quo4k (by omega)) ?_
    refine x_lss true rfl rfl rfl rfl rfl (decide_eq_true (by omega)) ?_
    refine go 0 ?_
    refine x_bs0 rfl rfl rfl Tryz.underlying27 sz5 ?_
    intro bb0 wb hbb hwb
    have M := M.acons hbb hwb
    have hbx := hbx.new ((Frm.refl None' _).alloc rfl hwb).frm
    refine ⟨trivial, ?_⟩
    refine go 1 ?_
    refine x_mul ((4096 * i : Nat) : Int) rfl rfl rfl rfl rfl (by rw [wmul (by omega) (by omega)]; omega) ?_
    refine go 2 ?_
    refine x_mul ((4096 * i : Nat) : Int) rfl rfl rfl rfl rfl (by rw [wmul (by omega) (by omega)]; omega) ?_
    refine x_add ((4096 * i + 4096 : Nat) : Int) rfl rfl rfl rfl rfl (by rw [wadd (by omega) (by omega)]; omega) ?_
    refine x_min ((min x.2.2.length (4096 * i + 4096) : Nat) : Int) rfl rfl rfl rfl rfl (by split <;> omega) ?_
    refine x_sllh (4096 * i) (min x.2.2.length (4096 * i + 4096)) rfl rfl rfl Tryz.underlying27 sz5 rfl rfl rfl rfl rfl (by omega) (by have := hbx.capb; omega) ?_
    have hsb := bytes_sub hbx (lo := 4096 * i) (hi := min x.2.2.length (4096 * i + 4096)) (by omega) (by omega)
    have hsl : ((x.2.2.drop (4096 * i)).take (min x.2.2.length (4096 * i + 4096) - 4096 * i)).length ≤ 4096 := by rw [List.length_take]; omega
    refine x_apL (L := [_]) (cs := []) (nn := 0) rfl rfl rfl rfl Tryz.underlying27 sz5 ze5 rfl by5 rfl rfl (.inr ⟨bb0, 0, [], _, rfl, rfl, rfl, rfl⟩) M (by simp) (hsb.src Tryz.underlying27 (byteCs_one _)) (by omega) (by decide) (by omega) ?_
    intro Lo v6 w6 how M
    rw [Nat.zero_add, List.nil_append] at how
    refine ⟨trivial, ?_⟩
    refine go 1 ?_
    have e : (x.2.2.drop (4096 * i)).take (min x.2.2.length (4096 * i + 4096) - 4096 * i) = (x.2.2.drop (4096 * i)).take 4096 := by
     rcases Nat.le_total x.2.2.length (4096 * i + 4096) with h | h
     ·rw [Nat.min_eq_left h, List.take_of_length_le (by rw [List.length_drop]; omega), List.take_of_length_le (by rw [List.length_drop]; omega)]
     ·rw [Nat.min_eq_right h]; congr 1; omega
    rw [e] at how
    rw [← hxb]
    exact ⟨Lo, how, (M.perm (L' := (bbx1, .cells [strV nm, .int .i64 (i : Int)].toArray 187 (0, 0)) :: ((bs, .cells [.slice (some ⟨bb, off, none⟩) l.length cv, .bool false].toArray 79 (0, 0)) :: (Lf ++ (X ++ Lo)))) (perm_c fun p => by simp only [List.countP_append, List.countP_cons, List.countP_nil]; omega)).tail⟩
   ·intro hsp2
    refine go 0 ?_
    refine x_add _ rfl rfl rfl rfl rfl (wadd (by omega) (by omega)) ?_
    refine go 0 ?_
    exact At.back (j + 1) ⟨rfl, rfl, rfl, trivial⟩ ⟨by omega, mem_take_snoc hx hno (fun e => by rw [e.2] at hsp2; cases hsp2), M⟩ (by first | omega | (simp only; omega) | (simp; done) | (simp; omega))
  ·intro hsp1
   refine go 0 ?_
   refine x_add _ rfl rfl rfl rfl rfl (wadd (by omega) (by omega)) ?_
   refine go 0 ?_
   exact At.back (j + 1) ⟨rfl, rfl, rfl, trivial⟩ ⟨by omega, mem_take_snoc hx hno (fun e => hsp1 e.1), M⟩ (by first | omega | (simp only; omega) | (simp; done) | (simp; omega))
 ·intro hco1
  have hj2 : j = l.length := by omega
  subst hj2
  rw [List.take_length] at hno
  refine go 1 ?_
  intro _ M
  refine go 1 ?_
  exact (baseL_some hb hno).elim

end Go.Proofs.YtigfbpbnohkokaaGreat

namespace Go.Proofs.YtigfbpbnohkokaaGreat
open Go Go.Fw Go.RowKit Go.Proofs
set_option linter.unusedVariables false
set_option linter.unusedSimpArgs false
set_option maxRecDepth 100000
set_option maxHeartbeats 4000000
noncomputable def madeE (l : List Raw) : Int := if (l.map metaR).any badM = true then 2 else (newS l).2
theorem names_of {l : List Raw} (h0 : (newS l).2 = 0) : (l.map (·.1)).Nodup := by
 have hb : OKd (bareL l) := fun x hx => by
  obtain ⟨y, _, rfl⟩ := List.mem_map.1 hx
  exact ⟨by simp [bareR], fun _ => rfl⟩
 have h2 : (ofL (bareL l)).2 = 0 := by
  unfold newS at h0
  split at h0
  ·cases h0
  ·split at h0
   ·rename_i h; exact absurd h0 h
   ·rename_i h; exact Classical.not_not.1 h
 have := (of_facts h2 hb).1
 rwa [bare_names'] at this
theorem made_ok {l : List Raw} (h : madeE l = 0) : OKd l ∧ (newS l).2 = 0 := by
 unfold madeE at h
 split at h
 ·cases h
 ·rename_i hb
  refine ⟨okd_of (by simpa using hb) ?_, h⟩
  cases hg : l.any (fun x => decide (65536 < x.2.2.length)) with
  | false => rfl
  | true => rw [newS_3 hg] at h; cases h
theorem made_post {l : List Raw} {base : BaseF} {bv r : Value} {w w' : World} (h : ((l.map metaR).any badM = true ∧ r = .tuple #[.pointer none, .int .i64 2] ∧ New w w') ∨ ((l.map metaR).any badM = false ∧ (newS l).2 ≠ 0 ∧ r = .tuple #[.pointer none, .int .i64 (newS l).2] ∧ New w w') ∨ ((l.map metaR).any badM = false ∧ (newS l).2 = 0 ∧ ∃ bf S, r = .tuple #[ptr bf, .int .i64 0] ∧ FR base S (newS l).1 (fun _ _ => none) ∧ Sep w (fsB bf bv (usedL (newS l).1) S) w')) :
  ∃ po, r = .tuple #[.pointer po, .int .i64 (madeE l)] ∧ (madeE l ≠ 0 → po = none ∧ New w w') ∧ (madeE l = 0 → ∃ bf S, po = some ⟨bf, 0, none⟩ ∧ FR base S (newS l).1 (fun _ _ => none) ∧ Sep w (fsB bf bv (usedL (newS l).1) S) w') := by
 rcases h with ⟨h1, rfl, hn⟩ | ⟨h1, h2, rfl, hn⟩ | ⟨h1, h2, bf, S, rfl, hF, M⟩
 ·have e : madeE l = 2 := by unfold madeE; rw [if_pos h1]
  exact ⟨none, by rw [e], fun _ => ⟨rfl, hn⟩, fun h => by rw [e] at h; cases h⟩
 ·have e : madeE l = (newS l).2 := by unfold madeE; rw [if_neg (by rw [h1]; simp)]
  exact ⟨none, by rw [e], fun _ => ⟨rfl, hn⟩, fun h => absurd (e ▸ h) h2⟩
 ·have e : madeE l = 0 := by unfold madeE; rw [if_neg (by rw [h1]; simp), h2]
  exact ⟨some ⟨bf, 0, none⟩, by rw [e], fun h => absurd e h, fun _ => ⟨bf, S, rfl, hF, M⟩⟩

-- valise/valiselaw19.made
theorem made19_c {w00 w0 : World} {v : Value} {l : List Raw} {Lf L : List (Nat × Obj)} (M : Sep w00 (Lf ++ L) w0) (h : FilesK w00 Lf v l) (hl : l.length ≤ 1000) : Ret Tryz.prog 15 #[v] w0 fun r w' => ∃ po bs, r = .tuple #[.pointer po, ptr bs, .int .i64 (madeE l)] ∧ (madeE l ≠ 0 → po = none ∧ Sep w00 ((bs, .cells [v, .bool false].toArray 79 (0, 0)) :: (Lf ++ L)) w') ∧
  (madeE l = 0 → ∃ bf bv S, po = some ⟨bf, 0, none⟩ ∧ FR (baseL l) S (newS l).1 (fun _ _ => none) ∧ BaseC w00 ((bs, .cells [v, .bool false].toArray 79 (0, 0)) :: Lf) bv (baseL l) ∧ Sep w00 (fsB bf bv (usedL (newS l).1) S ++ (((bs, .cells [v, .bool false].toArray 79 (0, 0)) :: Lf) ++ L)) w') := by
 obtain ⟨pv, cv, rfl⟩ := (h.at_ M (fun y hy => by simp [hy])).shape
 refine Ret.of_W Tryz.func15 rfl Tryz.ntmps15 rfl ?_
 refine go 2 ?_
 intro bbx1 _ M
 refine go 0 ?_
 refine x_call rfl rfl rfl rfl rfl en39 (metas_c (h.at_ M (fun y hy => List.mem_cons_of_mem _ (List.mem_append_left _ hy))) hl) ?_
 rintro r_ w1 ⟨L1, hm1, M1⟩
 have M := M.grow M1
 obtain ⟨p1, c1, rfl⟩ := hm1.shape
 refine ⟨trivial, ?_⟩
 refine go 1 ?_
 refine x_call rfl rfl rfl rfl rfl en13 (onew_c (l := l) (base := baseL l) (metasO_at hm1 (fun y hy => M.get (List.mem_append_right _ hy))) (by simpa using hl) rfl (fun _ => rfl) (fun h0 x hx hd => baseL_of (names_of h0) hx hd)) ?_
 rintro r_ w2 hpost
 obtain ⟨po, rfl, hp1, hp2⟩ := made_post hpost
 refine ⟨trivial, ?_⟩
 refine go 1 ?_
 refine ⟨po, bbx1, rfl, fun hne => ?_, fun h0 => ?_⟩
 ·obtain ⟨h1, hn⟩ := hp1 hne
  exact ⟨h1, (M.new hn).dropR⟩
 ·obtain ⟨bf, S, h1, hF, M2⟩ := hp2 h0
  obtain ⟨hokd, hn0⟩ := made_ok h0
  refine ⟨bf, .iface 44 (ptr bbx1), S, h1, hF, ⟨_, ptr bbx1, _, rfl, (by kernel_rfl : methOK Tryz.prog 44 "Block" 191 = true), en191, fun nm b i X w hb hi MX => ?_⟩, ?_⟩
  ·exact block_c MX h hl (fun x hx => (hokd x hx).1) hb hi
  ·have M : Sep w00 (((bbx1, .cells [.slice pv l.length cv, .bool false].toArray 79 (0, 0)) :: (Lf ++ L)) ++ L1) w1 := M
   have M2 : Sep w1 (fsB bf (.iface 44 (ptr bbx1)) (usedL (newS l).1) S) w2 := M2
   exact St.dropL (L' := L1) ((M.grow' M2).perm (perm_c fun p => by simp only [List.countP_append, List.countP_cons]; omega))

end Go.Proofs.YtigfbpbnohkokaaGreat

namespace Go.Proofs.YtigfbpbnohkokaaGreat
open Go Go.Fw Go.RowKit
set_option linter.unusedVariables false
set_option linter.unusedSimpArgs false

/-- Who asks for what. -/
structure Ask where
 who : Int
 o : OpS
def askC (a : Ask × Value) : List Value := .int .i64 a.1.who :: opC a.1.o a.2
def AsksAt (w : World) (v : Value) (l : List Ask) : Prop := ∃ ac : List (Ask × Value), ac.map (·.1) = l ∧ Sg w v 10 ac.length (ac.flatMap askC) ∧ ∀ f ∈ ac, BytesAt w f.2 f.1.o.d
def smallO (a : Ask) : Bool := decide (a.o.d.length ≤ 131072) && (decide (a.o.p.length ≤ 2000) && decide (a.o.q.length ≤ 2000))
def fewO (l : List Ask) : Bool := decide (l.length ≤ 40) && l.all smallO
section
variable {w w1 : World} {p : Option Addr} {v : Value} {l : List Ask} {a : Ask} {b off len cap j : Nat}
theorem AsksAt.new (h : AsksAt w v l) (hn : New w w1) : AsksAt w1 v l := let ⟨ac, h1, h2, h3⟩ := h; ⟨ac, h1, h2.new hn, fun f hf => (h3 f hf).new hn⟩
theorem AsksAt.shape (h : AsksAt w v l) : ∃ p cap, v = .slice p l.length cap := by
 obtain ⟨ac, h1, h2, _⟩ := h
 have : ac.length = l.length := by rw [← h1]; simp
 rw [← this]; exact h2.shape
theorem AsksAt.blk (h : AsksAt w (.slice p len cap) l) (hj : j < l.length) : ∃ b off, p = some ⟨b, off, none⟩ ∧ len = l.length := by
 obtain ⟨ac, h1, h2, _⟩ := h
 have : ac.length = l.length := by rw [← h1]; simp
 rw [← this]; exact h2.blk (j := j) (by omega)
theorem AsksAt.row (h : AsksAt w (.slice (some ⟨b, off, none⟩) len cap) l) (hx : l[j]? = some a) : ∃ p c, RowAt w b (off + j * 10) (.int .i64 a.who :: opC a.o (.slice p a.o.d.length c)) ∧ BytesAt w (.slice p a.o.d.length c) a.o.d := by
 obtain ⟨ac, h1, h2, h3⟩ := h
 have hj : j < l.length := (List.getElem?_eq_some_iff.1 hx).1
 have hlen : ac.length = l.length := by rw [← h1]; simp
 obtain ⟨f, hf⟩ := get_lt (l := ac) (q := j) (by omega)
 have hfx : f.1 = a := by
  rw [← h1, List.getElem?_map, hf] at hx
  simpa using hx
 subst hfx
 have h4 := h3 f (List.mem_of_getElem? hf)
 obtain ⟨p, c, h5⟩ := h4.shape
 have hsl := h2.sl (by omega)
 obtain ⟨b', off', h6, h7⟩ := h2.blk (j := j) (by omega)
 cases h6; subst h7
 refine ⟨p, c, ?_, h5 ▸ h4⟩
 rw [← h5]
 have hfd : ((ac.flatMap askC).drop (j * 10)).take (askC f).length = askC f := flat_drop (m := 10) (by decide) (fun _ _ => rfl) hf
 exact hsl.row (j := j) (l := askC f) rfl hfd (by simp [askC])
theorem fewO_no (hx : l[j]? = some a) (h : 40 ≤ j ∨ smallO a = false) : fewO l = false := by
 have hj := (List.getElem?_eq_some_iff.1 hx).1
 unfold fewO
 rcases h with h | h
 ·rw [decide_eq_false (by omega)]; rfl
 ·have : l.all smallO = false := by
   rw [List.all_eq_false]
   exact ⟨a, List.mem_of_getElem? hx, by simp [h]⟩
  rw [this, Bool.and_false]
theorem fewO_yes (h : ∀ x ∈ l, smallO x = true) (hl : l.length ≤ 40) : fewO l = true := by
 unfold fewO
 rw [decide_eq_true hl, List.all_eq_true.2 h]; rfl
end
end Go.Proofs.YtigfbpbnohkokaaGreat

namespace Go.Proofs.YtigfbpbnohkokaaGreat
open Go Go.Fw Go.RowKit Go.Proofs
set_option linter.unusedVariables false
set_option linter.unusedSimpArgs false
set_option maxRecDepth 100000
set_option maxHeartbeats 4000000

-- valise/valiselaw19.few
theorem few19_c {w0 : World} {v : Value} {l : List Ask} (h : AsksAt w0 v l) (hl : l.length ≤ 9223372036854775807) : Ret Tryz.prog 14 #[v] w0 fun r w' => r = .bool (fewO l) ∧ New w0 w' := by
 have M : Sep w0 [] w0 := St.nil w0
 obtain ⟨pv, cv, rfl⟩ := h.shape
 refine Ret.of_W Tryz.func14 rfl Tryz.ntmps14 rfl ?_
 refine go 0 ?_
 refine W.loop (σ := Nat) (fun j => [(0, _), (3, .int .i64 ((j : Nat) : Int))]) (fun j w => j ≤ l.length ∧ j ≤ 40 ∧ (∀ x ∈ l.take j, smallO x = true) ∧ Sep w0 [] w) (fun j => l.length - j) 0 ⟨rfl, rfl, trivial⟩ ⟨Nat.zero_le _, by omega, by simp, M⟩ ?_
 rintro j w ⟨hj, hj40, hok, M⟩
 refine cnd 2 ?_ ?_
 ·intro hco1
  obtain ⟨x, hx⟩ := get_lt (l := l) (q := j) (by omega)
  obtain ⟨bb, off, rfl, _⟩ := (h.new M.frm).blk (j := j) (by omega)
  obtain ⟨pd, cd, hrow, hbx⟩ := (h.new M.frm).row hx
  refine spl 1 12 ?_ ?_
  ·intro hsp1
   refine go 1 ?_
   rw [fewO_no hx (.inl (by omega))]; exact ⟨rfl, M.frm⟩
  ·intro hsp1
   refine go 0 ?_
   refine x_ia j rfl rfl rfl Tryz.underlying42 sz54 rfl rfl rfl (by omega) ?_
   refine go 0 ?_
   refine x_ld rfl rfl rfl Tryz.underlying27 rfl rfl (RowAt.cell hrow (j := 9) rfl) ?_
   refine spl 2 22 ?_ ?_
   ·intro hsp2
    refine go 1 ?_
    have hsm : smallO x = false := by unfold smallO; rw [show decide (x.o.d.length ≤ 131072) = false from decide_eq_false (by omega)]; simp
    rw [fewO_no hx (.inr hsm)]; exact ⟨rfl, M.frm⟩
   ·intro hsp2
    refine go 0 ?_
    refine x_ia j rfl rfl rfl Tryz.underlying42 sz54 rfl rfl rfl (by omega) ?_
    refine go 0 ?_
    refine x_ld rfl rfl rfl Tryz.underlying9 rfl rfl (RowAt.cell hrow (j := 2) rfl) ?_
    refine spl 2 32 ?_ ?_
    ·intro hsp3
     refine go 1 ?_
     have hsm : smallO x = false := by unfold smallO; rw [show decide (x.o.p.length ≤ 2000) = false from decide_eq_false (by omega)]; simp
     rw [fewO_no hx (.inr hsm)]; exact ⟨rfl, M.frm⟩
    ·intro hsp3
     refine go 0 ?_
     refine x_ia j rfl rfl rfl Tryz.underlying42 sz54 rfl rfl rfl (by omega) ?_
     refine go 0 ?_
     refine x_ld rfl rfl rfl Tryz.underlying9 rfl rfl (RowAt.cell hrow (j := 3) rfl) ?_
     refine cnd 2 ?_ ?_
     ·intro hco5
      refine go 1 ?_
      have hsm : smallO x = false := by unfold smallO; rw [show decide (x.o.q.length ≤ 2000) = false from decide_eq_false (by omega)]; simp
      rw [fewO_no hx (.inr hsm)]; exact ⟨rfl, M.frm⟩
     ·intro hco5
      refine go 0 ?_
      refine x_add _ rfl rfl rfl rfl rfl (wadd (by omega) (by omega)) ?_
      refine go 0 ?_
      exact At.back (j + 1) ⟨rfl, rfl, trivial⟩ ⟨by omega, by omega, mem_take_snoc hx hok (by unfold smallO; simp; omega), M⟩ (by first | omega | (simp only; omega) | (simp; done) | (simp; omega))
 ·intro hco1
  refine go 1 ?_
  have hj2 : j = l.length := by omega
  subst hj2
  rw [List.take_length] at hok
  rw [fewO_yes hok (by omega)]; exact ⟨rfl, M.frm⟩

end Go.Proofs.YtigfbpbnohkokaaGreat

namespace Go.Proofs.YtigfbpbnohkokaaGreat
open Go Go.Fw Go.RowKit
set_option linter.unusedVariables false
set_option linter.unusedSimpArgs false

def sumM (l : List Raw) : Nat := (l.map fun x => min x.2.2.length 524288).sum
def lightL (l : List Raw) : Bool := decide (l.length ≤ 130) && decide (sumM l ≤ 524288)
theorem sumM_snoc {l : List Raw} {x : Raw} {j : Nat} (hx : l[j]? = some x) : sumM (l.take (j + 1)) = sumM (l.take j) + min x.2.2.length 524288 := by
 rw [take_snoc hx]; simp [sumM]
theorem sumM_take (l : List Raw) (j : Nat) : sumM (l.take j) ≤ sumM l := by
 conv => rhs; rw [← List.take_append_drop j l]
 simp only [sumM, List.map_append, List.sum_append]
 omega
theorem light_no {l : List Raw} {j : Nat} (hj : j < l.length) (h : 130 ≤ j ∨ 524288 < sumM (l.take (j + 1))) : lightL l = false := by
 unfold lightL
 rcases h with h | h
 ·rw [decide_eq_false (by omega)]; rfl
 ·have := sumM_take l (j + 1)
  rw [show decide (sumM l ≤ 524288) = false from decide_eq_false (by omega), Bool.and_false]
end Go.Proofs.YtigfbpbnohkokaaGreat

namespace Go.Proofs.YtigfbpbnohkokaaGreat
open Go Go.Fw Go.RowKit Go.Proofs
set_option linter.unusedVariables false
set_option linter.unusedSimpArgs false
set_option maxRecDepth 100000
set_option maxHeartbeats 4000000

-- valise/valiselaw19.light
theorem light_c {w0 : World} {v : Value} {l : List Raw} (h : FilesAt w0 v l) (hl : l.length ≤ 9223372036854775807) : Ret Tryz.prog 19 #[v] w0 fun r w' => r = .bool (lightL l) ∧ New w0 w' := by
 have M : Sep w0 [] w0 := St.nil w0
 obtain ⟨pv, cv, rfl⟩ := h.shape
 refine Ret.of_W Tryz.func19 rfl Tryz.ntmps19 rfl ?_
 refine go 0 ?_
 refine W.loop (σ := Nat) (fun j => [(0, _), (3, .int .i64 ((sumM (l.take j) : Nat) : Int)), (4, .int .i64 ((j : Nat) : Int))]) (fun j w => j ≤ l.length ∧ j ≤ 130 ∧ sumM (l.take j) ≤ 524288 ∧ Sep w0 [] w) (fun j => l.length - j) 0 ⟨rfl, rfl, rfl, trivial⟩ ⟨Nat.zero_le _, by omega, by simp [sumM], M⟩ ?_
 rintro j w ⟨hj, hj130, hs, M⟩
 refine cnd 2 ?_ ?_
 ·intro hco1
  obtain ⟨x, hx⟩ := get_lt (l := l) (q := j) (by omega)
  obtain ⟨bb, off, rfl, _⟩ := (h.new M.frm).blk (j := j) (by omega)
  obtain ⟨pd, cd, hrow, hbx⟩ := (h.new M.frm).row hx
  have hsn := sumM_snoc hx
  refine go 0 ?_
  refine x_ia j rfl rfl rfl Tryz.underlying24 sz29 rfl rfl rfl (by omega) ?_
  refine go 0 ?_
  refine x_ld rfl rfl rfl Tryz.underlying27 rfl rfl (RowAt.cell hrow (j := 2) rfl) ?_
  refine go 1 ?_
  refine x_min ((min x.2.2.length 524288 : Nat) : Int) rfl rfl rfl rfl rfl (by split <;> omega) ?_
  refine x_add ((sumM (l.take (j + 1)) : Nat) : Int) rfl rfl rfl rfl rfl (by rw [wadd (by omega) (by omega), hsn]; omega) ?_
  refine spl 1 22 ?_ ?_
  ·intro hsp1
   refine go 1 ?_
   rw [light_no (by omega : j < l.length) (.inl (by omega))]; exact ⟨rfl, M.frm⟩
  ·intro hsp1
   refine cnd 1 ?_ ?_
   ·intro hco3
    refine go 1 ?_
    rw [light_no (by omega : j < l.length) (.inr (by omega))]; exact ⟨rfl, M.frm⟩
   ·intro hco3
    refine go 0 ?_
    refine x_add _ rfl rfl rfl rfl rfl (wadd (by omega) (by omega)) ?_
    refine go 0 ?_
    exact At.back (j + 1) ⟨rfl, rfl, rfl, trivial⟩ ⟨by omega, by omega, by omega, M⟩ (by first | omega | (simp only; omega) | (simp; done) | (simp; omega))
 ·intro hco1
  refine go 1 ?_
  have hj2 : j = l.length := by omega
  subst hj2
  rw [List.take_length] at hs
  exact ⟨by unfold lightL; rw [decide_eq_true (by omega), decide_eq_true hs]; rfl, M.frm⟩

end Go.Proofs.YtigfbpbnohkokaaGreat

namespace Go.Proofs.YtigfbpbnohkokaaGreat
open Go Go.Fw Go.RowKit Go.Proofs
set_option linter.unusedVariables false
set_option linter.unusedSimpArgs false
set_option maxRecDepth 100000
set_option maxHeartbeats 4000000

-- valise/valiselaw19.own
theorem own_c {w0 : World} {dv : Value} {o : OpS} (h : BytesAt w0 dv o.d) (hl : o.d.length ≤ 131072) : Ret Tryz.prog 24 #[.agg (opC o dv).toArray] w0 fun r w' => ∃ dv' Lr, r = .agg (opC o dv').toArray ∧ BytesO Lr dv' o.d ∧ Sep w0 Lr w' := by
 have M : Sep w0 [] w0 := St.nil w0
 obtain ⟨pd, cd, rfl⟩ := h.shape
 refine Ret.of_W Tryz.func24 rfl Tryz.ntmps24 rfl ?_
 refine go 1 ?_
 intro _ _ M
 refine go 1 ?_
 intro _ _ M
 refine go 0 ?_
 refine x_bs0 rfl rfl rfl Tryz.underlying27 sz5 ?_
 intro bb wb hbb hwb
 have M := M.acons hbb hwb
 refine ⟨trivial, ?_⟩
 refine go 1 ?_
 refine x_apL (L := [_]) (cs := []) (nn := 0) rfl rfl rfl rfl Tryz.underlying27 sz5 ze5 rfl by5 rfl rfl (.inr ⟨bb, 0, [], _, rfl, rfl, rfl, rfl⟩) M (by simp) ((h.new M.frm).src Tryz.underlying27 (byteCs_one _)) (by omega) (by decide) (by omega) ?_
 intro Lo v6 w6 how M
 rw [Nat.zero_add, List.nil_append] at how
 obtain ⟨p6, c6, rfl⟩ := how.shape
 have M := M.perm List.perm_append_comm
 refine ⟨trivial, ?_⟩
 refine go 1 ?_
 intro _ M
 refine go 2 ?_
 intro _ M
 refine go 1 ?_
 exact ⟨_, Lo, rfl, how, M.tail.tail⟩

end Go.Proofs.YtigfbpbnohkokaaGreat

namespace Go.Proofs.YtigfbpbnohkokaaGreat
open Go Go.Fw Go.RowKit
set_option linter.unusedVariables false
set_option linter.unusedSimpArgs false

def lz : List Raw := [([122], false, [98, 97, 115, 101])]
def lo1 : OpS := ⟨1, [97], [], 0, 0, 0, true, true, []⟩
def lo2 : OpS := ⟨3, [], [], 1, 2, 0, false, false, [120, 121]⟩
def lo3 : OpS := ⟨8, [47, 97], [98], 0, 0, 0, false, false, []⟩
def lo4 : OpS := ⟨2, [], [], 1, 0, 9, false, false, []⟩
def lo5 : OpS := ⟨7, [98], [], 0, 0, 0, false, false, []⟩
def lo6 : OpS := ⟨5, [], [], 1, 0, 0, false, false, []⟩
def lv1 : St3 := doS lz (fun _ _ => none) 0 lo1
def lv2 : St3 := doS lv1.2.1 lv1.2.2 0 lo2
def lv3 : St3 := doS lv2.2.1 lv2.2.2 0 lo3
def lv4 : St3 := doS lv3.2.1 lv3.2.2 0 lo4
def lv5 : St3 := doS lv4.2.1 lv4.2.2 0 lo5
def lv6 : St3 := doS lv5.2.1 lv5.2.2 0 lo6
def lv7 : St3 := doS lv6.2.1 lv6.2.2 0 lo5
theorem lv_says : lv1.1.h = 1 ∧ lv2.1.n = 2 ∧ lv3.1.e = 0 ∧ lv4.1.d = [0, 0, 120, 121] ∧ lv5.1.e = 18 ∧ lv6.1.e = 0 ∧ lv7.1.e = 0 ∧ lv7.2.1 = lz := by decide +kernel
theorem of_lz : ofL (bareL lz) = (bareL lz, 0) := (ofL_ok (firstR_zero.1 (by decide +kernel)) (together_one _)).trans (by decide +kernel)
theorem of_lz2 : ofL lz = (lz, 0) := (ofL_ok (firstR_zero.1 (by decide +kernel)) (together_one _)).trans (by decide +kernel)
theorem new_lz : newS lz = (lz, 0) := by rw [newS_0 (by decide +kernel) (by rw [of_lz]) (by decide +kernel), of_lz2]
end Go.Proofs.YtigfbpbnohkokaaGreat

namespace Go.Proofs.YtigfbpbnohkokaaGreat
open Go Go.Fw Go.RowKit Go.Proofs
set_option linter.unusedVariables false
set_option linter.unusedSimpArgs false


theorem do_x {w00 w0 : World} {bf : Nat} {bv dv : Value} {S : FSt} {base : BaseF} {X Lb L : List (Nat × Obj)} {l : List Raw} {hf : HF} {who : Int} {o : OpS} (M : Sep w00 (X ++ (fsB bf bv (usedL l) S ++ (Lb ++ L))) w0) (hR : FR base S l hf) (hB : BaseC w00 Lb bv base) (hdv : ∀ w Y, Sep w00 Y w → (∀ y ∈ X, y ∈ Y) → (∀ y ∈ L, y ∈ Y) → BytesAt w dv o.d) :
  Ret Tryz.prog 16 #[ptr bf, .int .i64 who, .agg (opC o dv).toArray] w0 fun r w' => ∃ S' p1 c1 p2 c2 n2 L1 L2, r = rsV (doS l hf who o).1 (.slice p1 (doS l hf who o).1.d.length c1) (.slice p2 n2 c2) ∧ BytesO L1 (.slice p1 (doS l hf who o).1.d.length c1) (doS l hf who o).1.d ∧ StrsO L2 (.slice p2 n2 c2) (doS l hf who o).1.l ∧ FR base S' (doS l hf who o).2.1 (doS l hf who o).2.2 ∧ Sep w00 (X ++ (fsB bf bv (usedL (doS l hf who o).2.1) S' ++ (Lb ++ (L ++ (L1 ++ L2))))) w' :=
 (do_c (St.fsi M) hR hB (fun w Y hY hs => hdv w Y hY (fun y hy => hs y (List.mem_append_left _ hy)) (fun y hy => hs y (List.mem_append_right _ hy)))).mono fun r w' ⟨S', Lr, ⟨dv', lv', L1, L2, h1, h2, h3, h4⟩, hR', M⟩ => by
  subst h2
  obtain ⟨p1, c1, rfl⟩ := h3.shape
  obtain ⟨p2, c2, rfl, _⟩ := h4.shape2 (by decide)
  exact ⟨S', p1, c1, p2, c2, _, L1, L2, h1, h3, h4, hR', St.fso M⟩



theorem files_x {w00 w0 : World} {bf : Nat} {bv : Value} {S : FSt} {base : BaseF} {X Lb L : List (Nat × Obj)} {l : List Raw} {hf : HF} (M : Sep w00 (X ++ (fsB bf bv (usedL l) S ++ (Lb ++ L))) w0) (hR : FR base S l hf) (hB : BaseC w00 Lb bv base) :
  Ret Tryz.prog 17 #[ptr bf] w0 fun r w' => ∃ p c Lr, r = .slice p l.length c ∧ FilesO Lr (.slice p l.length c) l ∧ Sep w00 (X ++ (fsB bf bv (usedL l) S ++ (Lb ++ (L ++ Lr)))) w' :=
 (files19_c (St.fsi M) hR hB).mono fun r w' ⟨Lr, h1, M⟩ => by
  obtain ⟨p, c, rfl⟩ := (filesO_get h1 (fun y hy => M.get (by simp [hy]))).shape
  exact ⟨p, c, Lr, rfl, h1, St.fso M⟩

end Go.Proofs.YtigfbpbnohkokaaGreat

namespace Go.Proofs.YtigfbpbnohkokaaGreat
open Go Go.Fw Go.RowKit Go.Proofs
set_option linter.unusedVariables false
set_option linter.unusedSimpArgs false
set_option maxRecDepth 100000
set_option maxHeartbeats 4000000

-- valise/valiselaw19.lives
theorem lives19_c {w0 : World}   : Ret Tryz.prog 11 #[] w0 fun r w' => r = .bool true ∧ New w0 w' := by
 have M : Sep w0 [] w0 := St.nil w0
 refine Ret.of_W Tryz.func11 rfl Tryz.ntmps11 rfl ?_
 refine go 0 ?_
 refine W.reg [(0, true), (1, true), (2, false), (3, true), (4, true), (5, false), (6, false), (7, false), (8, false), (9, false), (10, false), (11, false)] (by kernel_rfl) ?_
 intro K hK
 refine x_bsN (byteCs [98, 97, 115, 101]) rfl rfl rfl Tryz.underlying27 sz5 ze5 (Z := [_]) rfl rfl (by decide) (by decide) rfl (by kernel_rfl) ?_
 intro bz wz hbz hwz
 have M := M.acons hbz hwz
 refine ⟨trivial, ?_⟩
 refine x_cvsl rfl rfl rfl rfl Tryz.underlying27 Tryz.underlying5 rfl (M.at_ 0 rfl) ?_
 intro wcv1 hwcv1
 have M := M.put 0 rfl hwcv1
 refine ⟨trivial, ?_⟩
 refine go 1 ?_
 refine x_bs1 (cs := [strV [122], .bool false, .slice (some ⟨bz, 0, none⟩) 4 4]) rfl rfl rfl Tryz.underlying24 sz29 ze29 (Z := [_, _, _]) rfl rfl (by decide) (by decide) rfl rfl rfl ?_
 intro bf0 wbs2 hbf0 hwbs2
 have M := M.acons hbf0 hwbs2
 have M : Sep w0 [(bf0, .cells [strV [122], .bool false, .slice (some ⟨bz, 0, none⟩) 4 4].toArray 29 (0, 0)), (bz, .cells (byteCs [98, 97, 115, 101]).toArray 5 (4, 5))] wbs2 := M
 have hFz : FilesK w0 [(bf0, .cells [strV [122], .bool false, .slice (some ⟨bz, 0, none⟩) 4 4].toArray 29 (0, 0)), (bz, .cells (byteCs [98, 97, 115, 101]).toArray 5 (4, 5))] (.slice (some ⟨bf0, 0, none⟩) 1 1) lz := ⟨[(([122], false, [98, 97, 115, 101]), .slice (some ⟨bz, 0, none⟩) 4 4)], rfl, SgK.slL (.inr ⟨bf0, 0, 1, _, _, _, rfl, Nat.le_refl _, List.mem_cons_self, rfl, rfl⟩) (fun _ h => h), fun f hf => by rw [List.mem_singleton.1 hf]; exact ⟨SgK.lit (List.mem_cons_of_mem _ List.mem_cons_self) rfl, rfl⟩⟩
 refine ⟨trivial, ?_⟩
 refine x_call rfl rfl rfl rfl rfl en15 (made19_c (w00 := w0) (L := []) (Lf := [_, _]) (l := lz) (by rw [List.append_nil]; exact M) hFz (by decide)) ?_
 rintro r_ w1 ⟨po, bs, rfl, hbad, hgood⟩
 have hz0 : madeE lz = 0 := by unfold madeE; rw [if_neg (by decide), new_lz]
 obtain ⟨bf, bv, S0, rfl, hR0, hB, M⟩ := hgood hz0
 rw [new_lz] at hR0 M
 rw [hz0]
 have hR0 : FR (baseL lz) S0 lz (fun _ _ => none) := hR0
 obtain ⟨Lb, hLb⟩ : ∃ Lb : List (Nat × Obj), Lb = ((bs, .cells [.slice (some ⟨bf0, 0, none⟩) 1 1, .bool false].toArray 79 (0, 0)) :: [(bf0, .cells [strV [122], .bool false, .slice (some ⟨bz, 0, none⟩) 4 4].toArray 29 (0, 0)), (bz, .cells (byteCs [98, 97, 115, 101]).toArray 5 (4, 5))]) := ⟨_, rfl⟩
 have hsh : ((bs, .cells [.slice (some ⟨bf0, 0, none⟩) 1 1, .bool false].toArray 79 (0, 0)) : Nat × Obj) ∈ Lb := by rw [hLb]; exact List.mem_cons_self
 have hB : BaseC w0 Lb bv (baseL lz) := by rw [hLb]; exact hB
 have M : Sep w0 ([] ++ (fsB bf bv (usedL lz) S0 ++ (Lb ++ []))) w1 := by rw [hLb]; exact M
 refine ⟨trivial, ?_⟩
 refine go 1 ?_
 refine x_nei false rfl rfl rfl rfl rfl rfl ?_
 refine go 1 ?_
 refine x_call rfl rfl rfl rfl rfl en16 (do_x (X := []) (l := lz) (hf := fun _ _ => none) (who := 0) (o := lo1) (dv := (.slice none 0 0)) M hR0 hB (fun _ _ _ _ _ => .inr (.inl ⟨rfl, rfl, rfl⟩))) ?_
 rintro r_ wr1 ⟨S1, p1, c1, q1, d1, n1, La1, Lb1, rfl, hb1, hs1, hR1, M⟩
 have hR1 : FR (baseL lz) S1 lv1.2.1 lv1.2.2 := hR1
 refine ⟨trivial, ?_⟩
 refine go 1 ?_
 intro _ _ M
 refine go 1 ?_
 intro _ M
 refine go 0 ?_
 refine W.reg [(0, false), (1, true), (2, true), (3, false), (4, true), (5, true), (6, true)] (by kernel_rfl) ?_
 intro K hK
 refine go 0 ?_
 refine x_bsN (byteCs [120, 121]) rfl rfl rfl Tryz.underlying27 sz5 ze5 (Z := [_]) rfl rfl (by decide) (by decide) rfl (by kernel_rfl) ?_
 intro bxy wxy hbxy hwxy
 have M := M.acons hbxy hwxy
 refine ⟨trivial, ?_⟩
 refine x_cvsl rfl rfl rfl rfl Tryz.underlying27 Tryz.underlying5 rfl (M.at_ 0 rfl) ?_
 intro wcv2 hwcv2
 have M := M.put 0 rfl hwcv2
 refine ⟨trivial, ?_⟩
 refine go 1 ?_
 refine x_call rfl rfl rfl rfl rfl en16 (do_x (X := [_, _]) (l := lv1.2.1) (hf := lv1.2.2) (who := 0) (o := lo2) (dv := (.slice (some ⟨bxy, 0, none⟩) 2 2)) M hR1 hB (fun w Y hY hX _ => SgK.lit (w00 := w0) (L := [(bxy, .cells (byteCs [120, 121]).toArray 5 (2, 3))]) List.mem_cons_self rfl w Y hY (fun y hy => by rw [List.mem_singleton.1 hy]; exact hX _ List.mem_cons_self))) ?_
 rintro r_ wr2 ⟨S2, p2, c2, q2, d2, n2, La2, Lb2, rfl, hb2, hs2, hR2, M⟩
 have hR2 : FR (baseL lz) S2 lv2.2.1 lv2.2.2 := hR2
 refine ⟨trivial, ?_⟩
 refine go 1 ?_
 intro _ _ M
 refine go 1 ?_
 intro _ M
 refine go 1 ?_
 refine x_call rfl rfl rfl rfl rfl en16 (do_x (X := [_, _, _]) (l := lv2.2.1) (hf := lv2.2.2) (who := 0) (o := lo3) (dv := (.slice none 0 0)) M hR2 hB (fun _ _ _ _ _ => .inr (.inl ⟨rfl, rfl, rfl⟩))) ?_
 rintro r_ wr3 ⟨S3, p3, c3, q3, d3, n3, La3, Lb3, rfl, hb3, hs3, hR3, M⟩
 have hR3 : FR (baseL lz) S3 lv3.2.1 lv3.2.2 := hR3
 refine ⟨trivial, ?_⟩
 refine go 1 ?_
 intro _ _ M
 refine go 1 ?_
 intro _ M
 refine go 1 ?_
 refine x_call rfl rfl rfl rfl rfl en16 (do_x (X := [_, _, _, _]) (l := lv3.2.1) (hf := lv3.2.2) (who := 0) (o := lo4) (dv := (.slice none 0 0)) M hR3 hB (fun _ _ _ _ _ => .inr (.inl ⟨rfl, rfl, rfl⟩))) ?_
 rintro r_ wr4 ⟨S4, p4, c4, q4, d4, n4, La4, Lb4, rfl, hb4, hs4, hR4, M⟩
 have hR4 : FR (baseL lz) S4 lv4.2.1 lv4.2.2 := hR4
 refine ⟨trivial, ?_⟩
 refine go 1 ?_
 intro _ _ M
 refine go 1 ?_
 intro _ M
 refine go 1 ?_
 refine x_call rfl rfl rfl rfl rfl en16 (do_x (X := [_, _, _, _, _]) (l := lv4.2.1) (hf := lv4.2.2) (who := 0) (o := lo5) (dv := (.slice none 0 0)) M hR4 hB (fun _ _ _ _ _ => .inr (.inl ⟨rfl, rfl, rfl⟩))) ?_
 rintro r_ wr5 ⟨S5, p5, c5, q5, d5, n5, La5, Lb5, rfl, hb5, hs5, hR5, M⟩
 have hR5 : FR (baseL lz) S5 lv5.2.1 lv5.2.2 := hR5
 refine ⟨trivial, ?_⟩
 refine go 1 ?_
 intro _ _ M
 refine go 1 ?_
 intro _ M
 refine go 1 ?_
 refine x_call rfl rfl rfl rfl rfl en16 (do_x (X := [_, _, _, _, _, _]) (l := lv5.2.1) (hf := lv5.2.2) (who := 0) (o := lo6) (dv := (.slice none 0 0)) M hR5 hB (fun _ _ _ _ _ => .inr (.inl ⟨rfl, rfl, rfl⟩))) ?_
 rintro r_ wr6 ⟨S6, p6, c6, q6, d6, n6, La6, Lb6, rfl, hb6, hs6, hR6, M⟩
 have hR6 : FR (baseL lz) S6 lv6.2.1 lv6.2.2 := hR6
 refine ⟨trivial, ?_⟩
 refine go 1 ?_
 intro _ _ M
 refine go 1 ?_
 intro _ M
 refine go 1 ?_
 refine x_call rfl rfl rfl rfl rfl en16 (do_x (X := [_, _, _, _, _, _, _]) (l := lv6.2.1) (hf := lv6.2.2) (who := 0) (o := lo5) (dv := (.slice none 0 0)) M hR6 hB (fun _ _ _ _ _ => .inr (.inl ⟨rfl, rfl, rfl⟩))) ?_
 rintro r_ wr7 ⟨S7, p7, c7, q7, d7, n7, La7, Lb7, rfl, hb7, hs7, hR7, M⟩
 have hR7 : FR (baseL lz) S7 lv7.2.1 lv7.2.2 := hR7
 refine ⟨trivial, ?_⟩
 refine go 1 ?_
 intro _ _ M
 refine go 1 ?_
 intro _ M
 refine go 0 ?_
 refine x_call rfl rfl rfl rfl rfl en17 (files_x (X := [_, _, _, _, _, _, _, _]) (l := lv7.2.1) (hf := lv7.2.2) M hR7 hB) ?_
 rintro r_ w9 ⟨p9, c9, L9, rfl, hl9, M⟩
 obtain ⟨e1, e2, e3, e4, e5, e6, e7, e8⟩ := lv_says
 have hl9 : FilesO L9 (.slice p9 lv7.2.1.length c9) lv7.2.1 := hl9
 rw [e8] at hl9
 rw [show lv7.2.1.length = 1 by rw [e8]; rfl]
 have hl9 : FilesO L9 (.slice p9 1 c9) lz := hl9
 have hs9 : w9.heap[bs]? = some ((bs, .cells [.slice (some ⟨bf0, 0, none⟩) 1 1, .bool false].toArray 79 (0, 0)) : Nat × Obj).2 := M.get (List.mem_append_right _ (List.mem_append_right _ (List.mem_append_left _ hsh)))
 have hd4 := bytesO_get hb4 (fun y hy => M.get (by simp [hy]))
 have hfa := filesO_get hl9 (fun y hy => M.get (by simp [hy]))
 obtain ⟨b9, o9, rfl, _⟩ := hfa.blk (j := 0) (by decide)
 obtain ⟨p90, c90, hr9, hb90⟩ := hfa.row (j := 0) rfl
 refine ⟨trivial, ?_⟩
 refine go 0 ?_
 refine W.reg [(0, false), (1, false), (2, false), (3, false), (4, false), (5, false), (6, false), (7, false), (8, false), (9, false), (10, false), (11, false), (12, false), (13, false), (14, false), (15, false), (16, false), (17, false), (18, false), (19, false), (20, false), (21, false), (22, false), (23, false), (24, false), (25, false), (26, false), (27, false), (28, false), (29, false), (30, false), (31, false), (32, false), (33, false), (34, false), (35, false), (36, false), (37, false), (38, false), (39, false), (40, false), (41, false), (42, false), (43, false), (44, false), (45, false), (46, false), (47, false), (48, false), (49, false), (50, false), (51, false), (52, false), (53, false), (54, false), (55, false), (56, false), (57, false), (58, false)] (by kernel_rfl) ?_
 intro K hK
 refine go 1 ?_
 refine x_eqi true rfl rfl rfl rfl rfl (by rw [beq_iff_eq]; exact e1) ?_
 refine go 1 ?_
 refine x_eqi true rfl rfl rfl rfl rfl (by rw [beq_iff_eq]; exact e2) ?_
 refine go 1 ?_
 refine x_eqi true rfl rfl rfl rfl rfl (by rw [beq_iff_eq]; exact e3) ?_
 refine go 1 ?_
 refine x_cvbs _ rfl rfl rfl Tryz.underlying27 Tryz.underlying5 Tryz.underlying9 rfl (strOf_bytes hd4) ?_
 refine x_eqS true rfl rfl rfl rfl rfl (decide_eq_true e4) ?_
 refine go 1 ?_
 refine x_eqi true rfl rfl rfl rfl rfl (by rw [beq_iff_eq]; exact e5) ?_
 refine go 1 ?_
 refine x_eqi true rfl rfl rfl rfl rfl (by rw [beq_iff_eq]; exact e6) ?_
 refine go 1 ?_
 refine x_eqi true rfl rfl rfl rfl rfl (by rw [beq_iff_eq]; exact e7) ?_
 refine go 1 ?_
 refine x_eqi true rfl rfl rfl rfl rfl rfl ?_
 refine go 0 ?_
 refine x_ia 0 rfl rfl rfl Tryz.underlying24 sz29 rfl rfl rfl (by decide) ?_
 refine go 0 ?_
 refine x_ld rfl rfl rfl Tryz.underlying27 rfl rfl (RowAt.cell hr9 (j := 2) rfl) ?_
 refine x_cvbs _ rfl rfl rfl Tryz.underlying27 Tryz.underlying5 Tryz.underlying9 rfl (strOf_bytes hb90) ?_
 refine x_eqS true rfl rfl rfl rfl rfl (by decide) ?_
 refine go 0 ?_
 refine x_ld rfl rfl rfl Tryz.underlying4 rfl rfl (cell_of hs9 rfl) ?_
 refine go 2 ?_
 exact ⟨rfl, M.frm⟩

end Go.Proofs.YtigfbpbnohkokaaGreat
