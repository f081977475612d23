/-
  Texts that belong together, laid into one file: T13, T14, T15, FwL, T16, FwS, T17, T21, T22, U1, U2, FwM, FwN, T18, T19, U3, U4, O1, U5, O2, O3, U6, FwO, O4, U7, O5, O6.
-/
import Derived.Laws.IdiomRangeMap
import Derived.Laws.CopyRow
import Derived.Laws.IdiomCopy
import Derived.Test.YtigfbpbnohkokaaGreatQ3
namespace Go.Proofs.YtigfbpbnohkokaaGreat
open Go Go.Fw Go.RowKit
set_option linter.unusedVariables false
set_option linter.unusedSimpArgs false

/-- What is so of every tree. -/
structure GI (g : Gf) : Prop where
 root : g [] = some (true, [])
 par : ∀ q n v, g (q ++ [n]) = some v → ∃ b, g q = some (true, b)
 ok : ∀ q v, g q = some v → POK q ∧ v.2.length ≤ 65536 ∧ (v.1 = true → v.2 = [])

theorem absE_ent {E : List Ent} {q : NP} {v : Bool × List UInt8} (h : absE E q = some v) : ∃ e, ent E q = some e ∧ e.dir = v.1 ∧ e.data = v.2 := by
 unfold absE at h
 cases he : ent E q with
 | none => rw [he] at h; cases h
 | some e => rw [he] at h; cases h; exact ⟨e, rfl, rfl, rfl⟩
theorem TI.gi {E : List Ent} (h : TI E) : GI (absE E) where
 root := by
  obtain ⟨e, he, hd⟩ := h.root
  rw [absE_at he, hd, h.dd e (ent_mem he).1 hd]
 par q n v hv := by
  obtain ⟨e, he, _⟩ := absE_ent hv
  obtain ⟨d, hd, hdd⟩ := h.par q n e he
  exact ⟨d.data, by rw [absE_at hd, hdd]⟩
 ok q v hv := by
  obtain ⟨e, he, h1, h2⟩ := absE_ent hv
  obtain ⟨hm, hp⟩ := ent_mem he
  have := h.ok e hm
  rw [hp] at this
  exact ⟨this, by rw [← h2]; exact (h.dat e hm).2, fun h3 => by rw [← h2]; exact h.dd e hm (by rw [h1]; exact h3)⟩

theorem joinS_pre (a b : NP) : (joinS a).length ≤ (joinS (a ++ b)).length := by
 by_cases hb : b = []
 ·subst hb; simp
 ·by_cases ha : a = []
  ·subst ha; simp [joinS]
  ·rw [joinS_app ha hb]; simp
theorem POK.pre {a b : NP} (h : POK (a ++ b)) : POK a :=
 ⟨by have := h.1; simp at this; omega, fun x hx => h.2.1 x (List.mem_append_left _ hx), Nat.le_trans (joinS_pre a b) h.2.2⟩
theorem POK.take {a : NP} (h : POK a) (j : Nat) : POK (a.take j) := by
 have h2 : POK (a.take j ++ a.drop j) := by rw [List.take_append_drop]; exact h
 exact h2.pre
theorem POK.sp {N : NP} (h : POK N) : splitE (joinS N) = 0 ∧ splitN (joinS N) = N := splitN_join h.1 h.2.1 h.2.2
theorem POK.inj {a b : NP} (ha : POK a) (hb : POK b) (h : joinS a = joinS b) : a = b := by rw [← ha.sp.2, h, hb.sp.2]
theorem sN_nil {p : List UInt8} (h : splitE p = 0) : splitN p = [] ↔ p = [] := by
 rcases splitN_facts h with ⟨h1, h2⟩ | ⟨h1, h2, _⟩
 ·exact ⟨fun _ => h1, fun _ => h2⟩
 ·rw [h2]; exact ⟨fun h3 => absurd h3 (splitS_ne p), fun h3 => absurd h3 h1⟩
theorem splitN_0 : splitN [] = [] := rfl

section
variable {g : Gf}
theorem GI.pre (h : GI g) : ∀ {t q : NP} {v : Bool × List UInt8}, g (q ++ t) = some v → t ≠ [] → ∃ b n, g q = some (true, b) ∧ g (q ++ [n]) ≠ none := by
 intro t
 induction t with
 | nil => intro q v _ h0; exact absurd rfl h0
 | cons n t ih =>
  intro q v hv _
  have hv2 : g ((q ++ [n]) ++ t) = some v := by simpa using hv
  by_cases ht : t = []
  ·subst ht
   rw [List.append_nil] at hv2
   obtain ⟨b, hb⟩ := h.par q n v hv2
   exact ⟨b, n, hb, by rw [hv2]; simp⟩
  ·obtain ⟨b, _, hb, _⟩ := ih hv2 ht
   obtain ⟨b2, hb2⟩ := h.par q n _ hb
   exact ⟨b2, n, hb2, by rw [hb]; simp⟩
end

abbrev ltR (x y : Raw) : Prop := compareP x.1 y.1 < 0
theorem cmpP_join {a b : NP} (ha : allOK a) (hb : allOK b) : compareP (joinS a) (joinS b) = compareL a b := by unfold compareP; rw [namesP_join ha, namesP_join hb]
theorem ltR_irr (x : Raw) : ¬ ltR x x := by unfold ltR; rw [cmpP_self]; omega
theorem ltR_tr {a b c : Raw} (h1 : ltR a b) (h2 : ltR b c) : ltR a c := by
 have := cmpP_trans (a := a.1) (b := b.1) (c := c.1) (by unfold ltR at h1; omega) (by unfold ltR at h2; omega)
 unfold ltR at *
 rcases this with h | ⟨h, _⟩ <;> omega
theorem ltR_or {a b : Raw} (h : a.1 ≠ b.1) : ltR a b ∨ ltR b a := by
 rcases cmpP_cases a.1 b.1 with h1 | ⟨_, h1⟩ | h1
 ·exact .inl (by unfold ltR; omega)
 ·exact absurd h1 h
 ·exact .inr (by unfold ltR; rw [cmpP_swap]; omega)
theorem srt_nodup {l : List Raw} (h : l.Pairwise ltR) : l.Nodup := h.imp fun h e => by subst e; exact ltR_irr _ h
theorem srt_ext {a b : List Raw} (ha : a.Pairwise ltR) (hb : b.Pairwise ltR) (h : ∀ x, x ∈ a ↔ x ∈ b) : a = b :=
 List.Perm.eq_of_pairwise (le := ltR) (fun a b _ _ h1 h2 => absurd (ltR_tr h1 h2) (ltR_irr _)) ha hb ((List.perm_ext_iff_of_nodup (srt_nodup ha) (srt_nodup hb)).2 h)
theorem srt_names {l : List Raw} (h : l.Pairwise ltR) : (l.map (·.1)).Nodup := by
 rw [List.Nodup, List.pairwise_map]
 exact h.imp fun {a b} h e => by unfold ltR at h; rw [e, cmpP_self] at h; omega

/-- These rows tell the tree. -/
structure Rel (g : Gf) (l : List Raw) : Prop where
 srt : l.Pairwise ltR
 mem : ∀ x, x ∈ l ↔ ∃ N, N ≠ [] ∧ x.1 = joinS N ∧ g N = some x.2

section
variable {g : Gf} {l : List Raw} {x : Raw} {p : List UInt8}
theorem Rel.name (h : Rel g l) (hok : ∀ q v, g q = some v → POK q) (hx : x ∈ l) : splitE x.1 = 0 ∧ splitN x.1 ≠ [] ∧ g (splitN x.1) = some x.2 ∧ x.1 ≠ [] := by
 obtain ⟨N, hN, h1, h2⟩ := (h.mem x).1 hx
 have := (hok N _ h2).sp
 rw [← h1] at this
 exact ⟨this.1, by rw [this.2]; exact hN, by rw [this.2]; exact h2, fun e => by rw [e] at this; exact hN (this.2.symm.trans rfl)⟩
theorem Rel.find (h : Rel g l) (hok : ∀ q v, g q = some v → POK q) (hp : splitE p = 0) (h0 : p ≠ []) : l.find? (fun x => decide (x.1 = p)) = (g (splitN p)).map fun v => (p, v) := by
 cases hv : g (splitN p) with
 | none =>
  refine List.find?_eq_none.2 fun y hy => ?_
  intro e
  obtain ⟨_, _, h3, _⟩ := h.name hok hy
  simp at e
  rw [e, hv] at h3; cases h3
 | some v =>
  have hm : (p, v) ∈ l := (h.mem _).2 ⟨splitN p, fun e => h0 ((sN_nil hp).1 e), (joinS_splitN hp).symm, hv⟩
  cases hf : l.find? (fun x => decide (x.1 = p)) with
  | none => exact absurd (List.find?_eq_none.1 hf _ hm) (by simp)
  | some y =>
   have h1 := List.mem_of_find?_eq_some hf
   have h2 := List.find?_some hf
   simp at h2
   obtain ⟨_, _, h3, _⟩ := h.name hok h1
   rw [h2, hv] at h3
   cases h3
   show some y = some (p, y.2)
   rw [← h2]
theorem Rel.findF (hG : GI g) (h : Rel g l) : ∀ (r pre : NP) (f : Raw), g pre = some f.2 → POK (pre ++ r) →
  Go.Proofs.YtigfbpbnohkokaaGreat.findF l pre r f = if comeG g pre r = 0 then (if r = [] then f else (joinS (pre ++ r), (g (pre ++ r)).getD (false, [])), 0) else (fileZ, comeG g pre r)
 | [], pre, f, _, _ => rfl
 | n :: r, pre, f, hf, hP => by
  have hP2 : POK ((pre ++ [n]) ++ r) := by simpa using hP
  have hsp := hP2.pre.sp
  have hfd := h.find (fun q v hv => (hG.ok q v hv).1) hsp.1 (fun e => by
   have := hsp.2; rw [e] at this; exact absurd (this.symm.trans rfl : pre ++ [n] = []) (by simp))
  rw [hsp.2] at hfd
  obtain ⟨fn, fd, fb⟩ := f
  simp only at hf
  unfold Go.Proofs.YtigfbpbnohkokaaGreat.findF comeG
  rw [hf, hfd]
  cases fd with
  | false => simp
  | true =>
   cases hk : g (pre ++ [n]) with
   | none => simp
   | some v =>
    simp only [if_true, Option.map_some, Option.isNone_some, Bool.false_eq_true, if_false]
    rw [Rel.findF hG h r (pre ++ [n]) (joinS (pre ++ [n]), v) hk hP2]
    split
    ·rw [if_neg (by simp : n :: r ≠ [])]
     by_cases hr : r = []
     ·subst hr; rw [if_pos rfl, hk]; rfl
     ·rw [if_neg hr]; simp
    ·rfl
theorem Rel.findL (hG : GI g) (h : Rel g l) (p : List UInt8) : Go.Proofs.YtigfbpbnohkokaaGreat.findL l p = (findV g p, findG g p) := by
 unfold Go.Proofs.YtigfbpbnohkokaaGreat.findL findV
 by_cases hp : splitE p = 0
 ·rw [if_pos hp, findG_ok hp, h.findF hG (splitN p) [] ([], true, []) hG.root (POK_split hp)]
  split
  ·rename_i hc
   by_cases h0 : splitN p = []
   ·have := (sN_nil hp).1 h0
    subst this
    rw [if_pos h0, splitN_0, hG.root]; rfl
   ·rw [if_neg h0, List.nil_append, joinS_splitN hp, hc]
  ·rfl
 ·rw [if_neg hp, findG_bad hp, splitE_8 hp]; rfl
theorem Rel.home (hG : GI g) (h : Rel g l) (p : List UInt8) (root : Int) : homeL l p root = homeG g p root := by
 unfold homeL homeG
 by_cases hp : splitE p = 0
 ·rw [if_pos hp, if_pos hp]
  by_cases h0 : splitN p = []
  ·rw [if_pos h0, if_pos h0]
  ·rw [if_neg h0, if_neg h0, ← List.dropLast_eq_take]
   have hP : POK (splitN p).dropLast := by rw [List.dropLast_eq_take]; exact (POK_split hp).take _
   rw [h.findL hG]
   unfold findV
   rw [findG_ok hP.sp.1, hP.sp.2]
   by_cases hc : comeG g [] (splitN p).dropLast = 0
   ·simp only [hc, if_true]
   ·simp only [hc, if_false]
 ·rw [if_neg hp, if_neg hp, splitE_8 hp]
theorem atR_find (l : List Raw) (p : List UInt8) : 0 ≤ atR l p ↔ (l.find? (fun x => decide (x.1 = p))).isSome = true := by
 rcases atR_cases l p with ⟨j, x, h1, h2, h3, h4⟩ | ⟨h1, h2⟩
 ·rw [at_find h1 h2 h4, h3]; simp
 ·rw [at_find0 h1, h2]; simp
theorem Rel.at_ (h : Rel g l) (hok : ∀ q v, g q = some v → POK q) (hp : splitE p = 0) (h0 : p ≠ []) : 0 ≤ atR l p ↔ (g (splitN p)).isSome = true := by
 rw [atR_find, h.find hok hp h0]; simp

theorem withR_cons (y x : Raw) (l : List Raw) : withR (y :: l) x = if compareP y.1 x.1 < 0 then y :: withR l x else x :: y :: l := by
 unfold withR
 by_cases h : compareP y.1 x.1 < 0 <;> simp [h]
theorem withR_srt {x : Raw} : ∀ {l : List Raw}, l.Pairwise ltR → (∀ y ∈ l, y.1 ≠ x.1) → (withR l x).Pairwise ltR
 | [], _, _ => by simp [withR]
 | y :: l, h, hno => by
  rw [withR_cons]
  rw [List.pairwise_cons] at h
  split
  ·rename_i hlt
   refine List.pairwise_cons.2 ⟨fun z hz => ?_, withR_srt h.2 fun z hz => hno z (by simp [hz])⟩
   rcases withR_mem.1 hz with rfl | hz
   ·exact hlt
   ·exact h.1 z hz
  ·rename_i hlt
   have hxy : ltR x y := (ltR_or (hno y (by simp))).resolve_left hlt
   refine List.pairwise_cons.2 ⟨fun z hz => ?_, List.pairwise_cons.2 h⟩
   rcases List.mem_cons.1 hz with rfl | hz
   ·exact hxy
   ·exact ltR_tr hxy (h.1 z hz)
theorem Rel.with {N : NP} {v : Bool × List UInt8} (h : Rel g l) (hok : ∀ q v, g q = some v → POK q) (hN : POK N) (h0 : N ≠ []) (hv : g N = none) : Rel (setG g N (some v)) (withR l (joinS N, v)) where
 srt := withR_srt h.srt fun y hy e => by
  obtain ⟨h1, h2, h3, h4⟩ := h.name hok hy
  rw [e, hN.sp.2, hv] at h3
  cases h3
 mem x := by
  rw [withR_mem, h.mem]
  unfold setG
  constructor
  ·rintro (rfl | ⟨M, h1, h2, h3⟩)
   ·exact ⟨N, h0, rfl, by rw [if_pos rfl]⟩
   ·exact ⟨M, h1, h2, by rw [if_neg (fun e => by rw [e, hv] at h3; cases h3)]; exact h3⟩
  ·rintro ⟨M, h1, h2, h3⟩
   split at h3
   ·rename_i e
    subst e
    exact .inl (Prod.ext h2 (Option.some.inj h3).symm)
   ·exact .inr ⟨M, h1, h2, h3⟩
theorem Rel.erase {j : Nat} (h : Rel g l) (hok : ∀ q v, g q = some v → POK q) (hx : l[j]? = some x) : Rel (setG g (splitN x.1) none) (l.eraseIdx j) where
 srt := h.srt.sublist (List.eraseIdx_sublist l j)
 mem y := by
  have hxm := List.mem_of_getElem? hx
  obtain ⟨hx1, hx2, hx3, hx4⟩ := h.name hok hxm
  have key : y ∈ l.eraseIdx j ↔ y ∈ l ∧ y ≠ x := by
   rw [List.mem_eraseIdx_iff_getElem?]
   constructor
   ·rintro ⟨i, hi, hy⟩
    refine ⟨List.mem_of_getElem? hy, fun e => hi ?_⟩
    subst e
    have hn := srt_nodup h.srt
    obtain ⟨a1, a2⟩ := List.getElem?_eq_some_iff.1 hx
    obtain ⟨b1, b2⟩ := List.getElem?_eq_some_iff.1 hy
    exact (List.getElem_inj hn).1 (b2.trans a2.symm)
   ·rintro ⟨hy, hne⟩
    obtain ⟨i, hi⟩ := List.mem_iff_getElem?.1 hy
    exact ⟨i, fun e => hne (by rw [e, hx] at hi; exact (Option.some.inj hi).symm), hi⟩
  rw [key, h.mem]
  unfold setG
  constructor
  ·rintro ⟨⟨M, h1, h2, h3⟩, hne⟩
   refine ⟨M, h1, h2, ?_⟩
   rw [if_neg]
   ·exact h3
   ·intro e
    subst e
    rw [hx3] at h3
    exact hne (Prod.ext (h2.trans (joinS_splitN hx1)) (Option.some.inj h3).symm)
  ·rintro ⟨M, h1, h2, h3⟩
   split at h3
   ·cases h3
   ·rename_i hne
    refine ⟨⟨M, h1, h2, h3⟩, fun e => hne ?_⟩
    subst e
    rw [h2, (hok M _ h3).sp.2]

theorem home_ok {root : Int} (hr : root ≠ 0) (h : homeG g p root = 0) : splitE p = 0 ∧ splitN p ≠ [] ∧ p ≠ [] := by
 unfold homeG at h
 split at h
 ·rename_i hp
  split at h
  ·exact absurd h hr
  ·rename_i h0
   exact ⟨hp, h0, fun e => h0 ((sN_nil hp).2 e)⟩
 ·rename_i hp; exact absurd h hp

/-- Mkdir. -/
theorem Rel.mkdir (hG : GI g) (h : Rel g l) (p : List UInt8) : (mkdirL l p).2 = (mkdirG g (decide (128 ≤ l.length)) p).1 ∧ Rel (mkdirG g (decide (128 ≤ l.length)) p).2 (mkdirL l p).1 := by
 have hok : ∀ q v, g q = some v → POK q := fun q v hv => (hG.ok q v hv).1
 unfold mkdirL mkdirG
 rw [h.home hG]
 by_cases h1 : homeG g p 10 = 0
 ·obtain ⟨hp, h0, hp0⟩ := home_ok (by decide) h1
  rw [if_pos h1, if_pos h1]
  by_cases h2 : (g (splitN p)).isSome = true
  ·rw [if_pos h2, if_pos ((h.at_ hok hp hp0).2 h2)]; exact ⟨rfl, h⟩
  ·rw [if_neg h2, if_neg (fun e => h2 ((h.at_ hok hp hp0).1 e))]
   by_cases h3 : 128 ≤ l.length
   ·rw [if_pos h3, if_pos (decide_eq_true h3)]; exact ⟨rfl, h⟩
   ·rw [if_neg h3, if_neg (by simpa using h3)]
    refine ⟨rfl, ?_⟩
    have := h.with (v := (true, [])) hok (POK_split hp) h0 (by simpa using h2)
    rwa [joinS_splitN hp] at this
 ·rw [if_neg h1, if_neg h1]; exact ⟨rfl, h⟩
/-- Put. -/
theorem Rel.put (hG : GI g) (h : Rel g l) (p b : List UInt8) : (putL l p b).2 = (putG g (decide (128 ≤ l.length)) p b).1 ∧ Rel (putG g (decide (128 ≤ l.length)) p b).2 (putL l p b).1 := by
 have hok : ∀ q v, g q = some v → POK q := fun q v hv => (hG.ok q v hv).1
 unfold putL putG
 rw [h.home hG]
 by_cases h1 : homeG g p 16 = 0
 ·obtain ⟨hp, h0, hp0⟩ := home_ok (by decide) h1
  rw [if_pos h1, if_pos h1, h.find hok hp hp0]
  cases hv : g (splitN p) with
  | none =>
   simp only [Option.map_none, Option.getD_none, Bool.false_eq_true, if_false, Option.isNone_none, true_and]
   by_cases h2 : 65536 < b.length
   ·rw [if_pos h2, if_pos h2]; exact ⟨rfl, h⟩
   ·rw [if_neg h2, if_neg h2]
    by_cases h3 : 128 ≤ l.length
    ·rw [if_pos h3, if_pos (decide_eq_true h3)]; exact ⟨rfl, h⟩
    ·rw [if_neg h3, if_neg (by simpa using h3)]
     refine ⟨rfl, ?_⟩
     have := h.with (v := (false, b)) hok (POK_split hp) h0 hv
     rwa [joinS_splitN hp] at this
  | some v =>
   simp only [Option.map_some, Option.getD_some, Option.isNone_some, Bool.false_eq_true, false_and, if_false]
   by_cases h2 : v.1 = true
   ·rw [if_pos h2, if_pos h2]; exact ⟨rfl, h⟩
   ·rw [if_neg h2, if_neg h2]
    by_cases h3 : 65536 < b.length
    ·rw [if_pos h3, if_pos h3]; exact ⟨rfl, h⟩
    ·rw [if_neg h3, if_neg h3]
     refine ⟨rfl, ?_⟩
     have hfd := h.find hok hp hp0
     rw [hv] at hfd
     obtain ⟨i, x, hx, hxp, hat, _⟩ := (atR_cases l p).resolve_right (fun hc => by rw [at_find0 hc.1] at hfd; cases hfd)
     rw [hat]
     have h4 := h.erase hok hx
     rw [hxp] at h4
     have h5 := h4.with (v := (false, b)) (fun q v hv => by
      unfold setG at hv
      split at hv
      ·cases hv
      ·exact hok q v hv) (POK_split hp) h0 (by unfold setG; rw [if_pos rfl])
     rw [joinS_splitN hp] at h5
     have h6 : setG (setG g (splitN p) none) (splitN p) (some (false, b)) = setG g (splitN p) (some (false, b)) := by
      funext r; unfold setG; split <;> rfl
     rw [h6] at h5
     exact h5
 ·rw [if_neg h1, if_neg h1]; exact ⟨rfl, h⟩
theorem busy_iff (hG : GI g) (h : Rel g l) (hp : splitE p = 0) : busyL l p = true ↔ ¬ emptyG g (splitN p) := by
 have hok : ∀ q v, g q = some v → POK q := fun q v hv => (hG.ok q v hv).1
 unfold busyL emptyG
 rw [List.any_eq_true]
 constructor
 ·rintro ⟨x, hx, h1⟩ hem
  obtain ⟨hx1, hx2, hx3, hx4⟩ := h.name hok hx
  simp only [Bool.and_eq_true, decide_eq_true_eq] at h1
  obtain ⟨h1, h2⟩ := h1
  rw [underP_eq] at h2
  simp only [Bool.and_eq_true, decide_eq_true_eq] at h2
  obtain ⟨t, ht⟩ := ipf.1 h2.2
  rw [ht] at hx3
  obtain ⟨_, n, _, hn⟩ := hG.pre hx3 (fun e => h1 (by
   subst e
   rw [List.append_nil] at ht
   rw [← joinS_splitN hx1, ht, joinS_splitN hp]))
  exact hn (hem n)
 ·intro hne
  obtain ⟨n, hn⟩ := Classical.not_forall.1 hne
  cases hv : g (splitN p ++ [n]) with
  | none => exact absurd hv hn
  | some v =>
   have hP := hok _ _ hv
   have hm : (joinS (splitN p ++ [n]), v) ∈ l := (h.mem _).2 ⟨_, by simp, rfl, hv⟩
   refine ⟨_, hm, ?_⟩
   simp only [Bool.and_eq_true, decide_eq_true_eq]
   refine ⟨fun e => ?_, ?_⟩
   ·have := hP.sp.2
    rw [e] at this
    have := congrArg List.length this
    simp at this
   ·rw [underP_eq, hP.sp.1, hP.sp.2, hp, ipf_app]; rfl
/-- Remove. -/
theorem Rel.remove (hG : GI g) (h : Rel g l) (p : List UInt8) : (removeL l p).2 = (removeG g p).1 ∧ Rel (removeG g p).2 (removeL l p).1 := by
 have hok : ∀ q v, g q = some v → POK q := fun q v hv => (hG.ok q v hv).1
 unfold removeL removeG
 rw [h.findL hG]
 by_cases h1 : findG g p = 0
 ·simp only [h1, if_true]
  have hp : splitE p = 0 := Classical.byContradiction fun hp => by rw [findG_bad hp] at h1; exact hp h1
  by_cases h2 : p = []
  ·rw [if_pos h2, if_pos (.inl h2)]; exact ⟨rfl, h⟩
  ·rw [if_neg h2]
   by_cases h3 : busyL l p = true
   ·rw [if_pos h3, if_pos (.inr ((busy_iff hG h hp).1 h3))]; exact ⟨rfl, h⟩
   ·rw [if_neg h3, if_neg (fun e => e.elim h2 (fun e => h3 ((busy_iff hG h hp).2 e)))]
    refine ⟨rfl, ?_⟩
    have hfl : (Go.Proofs.YtigfbpbnohkokaaGreat.findL l p).2 = 0 := by rw [h.findL hG]; exact h1
    obtain ⟨y, hy, hyp⟩ := findL_mem hfl h2
    obtain ⟨i, x, hx, hxp, hat, _⟩ := (atR_cases l p).resolve_right (fun hc => hc.1 y hy hyp)
    rw [hat]
    have h4 := h.erase hok hx
    rw [hxp] at h4
    exact h4
 ·simp only [h1, if_false]; exact ⟨trivial, h⟩
end
end Go.Proofs.YtigfbpbnohkokaaGreat

namespace Go.Proofs.YtigfbpbnohkokaaGreat
open Go Go.Fw Go.RowKit
set_option linter.unusedVariables false
set_option linter.unusedSimpArgs false

theorem foldW_srt {f : Raw → Raw} : ∀ {l A : List Raw}, A.Pairwise ltR → (l.map fun x => (f x).1).Nodup → (∀ x ∈ l, ∀ y ∈ A, y.1 ≠ (f x).1) → (l.foldl (fun a x => withR a (f x)) A).Pairwise ltR
 | [], A, hA, _, _ => hA
 | x :: l, A, hA, hn, hd => by
  simp only [List.map_cons, List.nodup_cons] at hn
  refine foldW_srt (l := l) (A := withR A (f x)) (withR_srt hA fun y hy => hd x (by simp) y hy) hn.2 fun z hz y hy => ?_
  rcases withR_mem.1 hy with rfl | hy
  ·exact fun e => hn.1 (e ▸ List.mem_map.2 ⟨z, hz, rfl⟩)
  ·exact hd z (by simp [hz]) y hy

section
variable {g : Gf} {l : List Raw} {f : Raw} {x y p : List UInt8}
theorem joinS_cat {a r : NP} (ha : a ≠ []) : joinS (a ++ r) = joinS a ++ (if r = [] then [] else 47 :: joinS r) := by
 by_cases hr : r = []
 ·subst hr; simp
 ·rw [if_neg hr, joinS_app ha hr]
theorem mvN_cases (hG : GI g) (h : Rel g l) (hx : splitE x = 0) (hy : splitE y = 0) (hx0 : splitN x ≠ []) (hy0 : splitN y ≠ []) (hf : f ∈ l) :
  (∃ r, splitN f.1 = splitN x ++ r ∧ underP f.1 x = true ∧ mvN x y f = (joinS (splitN y ++ r), f.2)) ∨ ((∀ r, splitN f.1 ≠ splitN x ++ r) ∧ underP f.1 x = false ∧ mvN x y f = f) := by
 obtain ⟨h1, h2, h3, h4⟩ := h.name (fun q v hv => (hG.ok q v hv).1) hf
 have hu : underP f.1 x = (splitN x).isPrefixOf (splitN f.1) := by rw [underP_eq, h1, hx]; simp
 cases hc : (splitN x).isPrefixOf (splitN f.1) with
 | true =>
  obtain ⟨r, hr⟩ := ipf.1 hc
  refine .inl ⟨r, hr, by rw [hu, hc], ?_⟩
  unfold mvN
  rw [hu, hc, if_pos rfl]
  have e1 : f.1 = joinS (splitN x) ++ (if r = [] then [] else 47 :: joinS r) := by rw [← joinS_cat hx0, ← hr, joinS_splitN h1]
  have e2 : f.1.drop x.length = if r = [] then [] else 47 :: joinS r := by
   rw [e1, joinS_splitN hx, List.drop_left' rfl]
  rw [e2, joinS_cat hy0, joinS_splitN hy]
 | false =>
  refine .inr ⟨fun r hr => ?_, by rw [hu, hc], ?_⟩
  ·rw [hr, ipf_app] at hc; cases hc
  ·unfold mvN; rw [hu, hc, if_neg (by simp)]
theorem bad_iff (hG : GI g) (h : Rel g l) (hx : splitE x = 0) (hy : splitE y = 0) (hx0 : splitN x ≠ []) (hy0 : splitN y ≠ []) : l.any (badN x y) = true ↔ ¬ fitsG g (splitN x) (splitN y) := by
 have hok : ∀ q v, g q = some v → POK q := fun q v hv => (hG.ok q v hv).1
 have hall : ∀ {r : NP} {v}, g (splitN x ++ r) = some v → allOK (splitN y ++ r) := fun {r v} hv z hz => by
  rcases List.mem_append.1 hz with hz | hz
  ·exact (POK_split hy).2.1 z hz
  ·exact (hok _ _ hv).2.1 z (List.mem_append_right _ hz)
 rw [List.any_eq_true]
 constructor
 ·rintro ⟨f, hf, hb⟩ hfit
  unfold badN at hb
  simp only [Bool.and_eq_true, decide_eq_true_eq] at hb
  rcases mvN_cases hG h hx hy hx0 hy0 hf with ⟨r, h1, h2, h3⟩ | ⟨_, h2, _⟩
  ·obtain ⟨_, _, g3, _⟩ := h.name hok hf
   rw [h1] at g3
   rw [h3] at hb
   exact hb.2 (hfit r (by rw [g3]; simp)).sp.1
  ·rw [h2] at hb; cases hb.1
 ·intro hn
  unfold fitsG at hn
  obtain ⟨r, hr⟩ := Classical.not_forall.1 hn
  obtain ⟨hr1, hr2⟩ := Classical.not_imp.1 hr
  cases hv : g (splitN x ++ r) with
  | none => exact absurd hv hr1
  | some v =>
   have hm : (joinS (splitN x ++ r), v) ∈ l := (h.mem _).2 ⟨_, by simp [hx0], rfl, hv⟩
   refine ⟨_, hm, ?_⟩
   unfold badN
   simp only [Bool.and_eq_true, decide_eq_true_eq]
   rcases mvN_cases hG h hx hy hx0 hy0 hm with ⟨r', h1, h2, h3⟩ | ⟨h1, _⟩
   ·refine ⟨h2, ?_⟩
    rw [h3]
    simp only at h1
    rw [(hok _ _ hv).sp.2] at h1
    have := List.append_cancel_left h1
    subst this
    exact fun e => hr2 ((POK_iff (hall hv)).1 e)
   ·exact absurd (hok _ _ hv).sp.2 (h1 r)
theorem mov_rel (hG : GI g) (h : Rel g l) (hx : splitE x = 0) (hy : splitE y = 0) (hx0 : splitN x ≠ []) (hy0 : splitN y ≠ []) (hnu : ¬ (splitN x).isPrefixOf (splitN y) = true) (hb : g (splitN y) = none) (hfit : fitsG g (splitN x) (splitN y)) :
  Rel (moveG g (splitN x) (splitN y)) (movL x y l) := by
 have hok : ∀ q v, g q = some v → POK q := fun q v hv => (hG.ok q v hv).1
 have hyr : ∀ r v, g (splitN y ++ r) ≠ some v := fun r v hv => by
  by_cases h0 : r = []
  ·subst h0; rw [List.append_nil, hb] at hv; cases hv
  ·obtain ⟨b, _, h1, _⟩ := hG.pre hv h0
   rw [hb] at h1; cases h1
 have hinj : ∀ f1 ∈ l, ∀ f2 ∈ l, (mvN x y f1).1 = (mvN x y f2).1 → f1.1 = f2.1 := by
  intro f1 h1 f2 h2 he
  obtain ⟨a1, a2, a3, a4⟩ := h.name hok h1
  obtain ⟨b1, b2, b3, b4⟩ := h.name hok h2
  rcases mvN_cases hG h hx hy hx0 hy0 h1 with ⟨r, c1, c2, c3⟩ | ⟨c1, c2, c3⟩ <;> rcases mvN_cases hG h hx hy hx0 hy0 h2 with ⟨s, d1, d2, d3⟩ | ⟨d1, d2, d3⟩
  ·rw [c3, d3] at he
   rw [c1] at a3; rw [d1] at b3
   have := POK.inj (hfit r (by rw [a3]; simp)) (hfit s (by rw [b3]; simp)) he
   have := List.append_cancel_left this
   subst this
   rw [← joinS_splitN a1, ← joinS_splitN b1, c1, d1]
  ·rw [c3, d3] at he
   rw [c1] at a3
   have hP := (hfit r (by rw [a3]; simp)).sp.2
   simp only at he
   rw [he] at hP
   rw [hP] at b3
   exact absurd b3 (hyr _ _)
  ·rw [c3, d3] at he
   rw [d1] at b3
   have hP := (hfit s (by rw [b3]; simp)).sp.2
   simp only at he
   rw [← he] at hP
   rw [hP] at a3
   exact absurd a3 (hyr _ _)
  ·rw [c3, d3] at he; exact he
 refine ⟨foldW_srt List.Pairwise.nil ?_ (by simp), fun z => ?_⟩
 ·rw [List.Nodup, List.pairwise_map]
  refine List.Pairwise.imp_of_mem (fun {a b} ha hb hlt he => ?_) h.srt
  have := hinj a ha b hb he
  unfold ltR at hlt
  rw [this, cmpP_self] at hlt
  omega
 ·unfold movL
  rw [foldW_mem]
  unfold moveG
  constructor
  ·rintro (hz | ⟨f, hf, rfl⟩)
   ·cases hz
   ·obtain ⟨a1, a2, a3, a4⟩ := h.name hok hf
    rcases mvN_cases hG h hx hy hx0 hy0 hf with ⟨r, c1, c2, c3⟩ | ⟨c1, c2, c3⟩
    ·rw [c3]
     refine ⟨splitN y ++ r, by simp [hy0], rfl, ?_⟩
     rw [if_pos (ipf_app _ _), List.drop_left' rfl, ← c1]
     exact a3
    ·rw [c3]
     refine ⟨splitN f.1, a2, (joinS_splitN a1).symm, ?_⟩
     rw [if_neg, if_neg]
     ·exact a3
     ·intro e
      obtain ⟨t, ht⟩ := ipf.1 e
      exact c1 t ht
     ·intro e
      obtain ⟨t, ht⟩ := ipf.1 e
      rw [ht] at a3
      exact hyr _ _ a3
  ·rintro ⟨N, h0, h1, h2⟩
   refine .inr ?_
   split at h2
   ·rename_i hp
    obtain ⟨t, rfl⟩ := ipf.1 hp
    rw [List.drop_left' rfl] at h2
    have hm : (joinS (splitN x ++ t), z.2) ∈ l := (h.mem _).2 ⟨_, by simp [hx0], rfl, h2⟩
    refine ⟨_, hm, ?_⟩
    rcases mvN_cases hG h hx hy hx0 hy0 hm with ⟨r, c1, c2, c3⟩ | ⟨c1, c2, c3⟩
    ·simp only at c1
     rw [(hok _ _ h2).sp.2] at c1
     have := List.append_cancel_left c1
     subst this
     rw [c3]
     exact Prod.ext h1 rfl
    ·exact absurd (hok _ _ h2).sp.2 (c1 t)
   ·split at h2
    ·cases h2
    ·rename_i hp1 hp2
     have hm : z ∈ l := (h.mem _).2 ⟨N, h0, h1, h2⟩
     refine ⟨z, hm, ?_⟩
     rcases mvN_cases hG h hx hy hx0 hy0 hm with ⟨r, c1, c2, c3⟩ | ⟨c1, c2, c3⟩
     ·rw [h1, (hok _ _ h2).sp.2] at c1
      rw [c1, ipf_app] at hp2
      exact absurd rfl hp2
     ·exact c3.symm
/-- Rename. -/
theorem Rel.rename (hG : GI g) (h : Rel g l) (x y : List UInt8) : (renameL l x y).2 = (renameG g x y).1 ∧ Rel (renameG g x y).2 (renameL l x y).1 := by
 have hok : ∀ q v, g q = some v → POK q := fun q v hv => (hG.ok q v hv).1
 unfold renameL renameG
 rw [h.findL hG, h.home hG]
 by_cases h1 : findG g x = 0
 ·simp only [h1, if_true]
  have hx : splitE x = 0 := Classical.byContradiction fun hp => by rw [findG_bad hp] at h1; exact hp h1
  by_cases h2 : x = []
  ·rw [if_pos h2, if_pos h2]; exact ⟨rfl, h⟩
  ·rw [if_neg h2, if_neg h2]
   have hx0 : splitN x ≠ [] := fun e => h2 ((sN_nil hx).1 e)
   by_cases h3 : homeG g y 10 = 0
   ·obtain ⟨hy, hy0, hy1⟩ := home_ok (by decide) h3
    rw [if_pos h3, if_pos h3]
    by_cases h4 : x = y
    ·rw [if_pos h4, if_pos h4]; exact ⟨rfl, h⟩
    ·rw [if_neg h4, if_neg h4]
     by_cases h5 : underP y x = true
     ·rw [if_pos h5, if_pos h5]; exact ⟨rfl, h⟩
     ·rw [if_neg h5, if_neg h5]
      by_cases h6 : (g (splitN y)).isSome = true
      ·rw [if_pos h6, if_pos ((h.at_ hok hy hy1).2 h6)]; exact ⟨rfl, h⟩
      ·rw [if_neg h6, if_neg (fun e => h6 ((h.at_ hok hy hy1).1 e))]
       have hb := bad_iff hG h hx hy hx0 hy0
       by_cases h7 : fitsG g (splitN x) (splitN y)
       ·rw [if_neg (fun e => hb.1 e h7), if_neg (fun e => e h7)]
        exact ⟨rfl, mov_rel hG h hx hy hx0 hy0 (not_under hx hy (by simpa using h5)) (by simpa using h6) h7⟩
       ·rw [if_pos (hb.2 h7), if_pos h7]; exact ⟨rfl, h⟩
   ·rw [if_neg h3, if_neg h3]; exact ⟨rfl, h⟩
 ·simp only [h1, if_false]; exact ⟨trivial, h⟩
end

section
variable {E : List Ent} {l : List Raw}
/-- All files of a tree, in order. -/
def filesE (E : List Ent) : List Raw := (dfs E 9 []).map Ent.raw
theorem filesE_rel (hT : TI E) : Rel (absE E) (filesE E) where
 srt := by
  unfold filesE
  rw [List.pairwise_map]
  refine List.Pairwise.imp_of_mem (fun {a b} ha hb h => ?_) (dfs_sorted hT (by simp))
  obtain ⟨t, _, h1⟩ := (mem_dfs hT (by simp)).1 ha
  obtain ⟨u, _, h2⟩ := (mem_dfs hT (by simp)).1 hb
  unfold ltR Ent.raw
  rw [cmpP_join (hT.ok a (ent_mem h1).1).2.1 (hT.ok b (ent_mem h2).1).2.1]
  exact h
 mem x := by
  unfold filesE
  rw [List.mem_map]
  constructor
  ·rintro ⟨e, he, rfl⟩
   obtain ⟨t, h0, h1⟩ := (mem_dfs hT (by simp)).1 he
   rw [List.nil_append] at h1
   exact ⟨t, h0, by rw [← (ent_mem h1).2]; rfl, by rw [absE_at h1]; rfl⟩
  ·rintro ⟨N, h0, h1, h2⟩
   obtain ⟨e, he, h3, h4⟩ := absE_ent h2
   refine ⟨e, (mem_dfs hT (by simp)).2 ⟨N, h0, by simpa using he⟩, ?_⟩
   unfold Ent.raw
   rw [(ent_mem he).2]
   exact Prod.ext h1.symm (Prod.ext h3 h4)
theorem rel_ext {g : Gf} {a b : List Raw} (ha : Rel g a) (hb : Rel g b) : a = b := srt_ext ha.srt hb.srt fun x => by rw [ha.mem, hb.mem]
theorem filesE_eq (hT : TI E) (h : Rel (absE E) l) : filesE E = l := rel_ext (filesE_rel hT) h
theorem filesE_len (hT : TI E) : (filesE E).length + 1 = E.length := by
 obtain ⟨r, hr, _⟩ := hT.root
 have hs := dfs_sorted (E := E) (fuel := 9) (q := []) hT (by simp)
 have hnd : (dfs E 9 []).Nodup := hs.imp fun h e => by subst e; exact ltP_irr _ h
 have h1 : (r :: dfs E 9 []).length ≤ E.length := by
  refine nodup_le (List.nodup_cons.2 ⟨fun h => ?_, hnd⟩) fun e he => ?_
  ·obtain ⟨t, h0, h1⟩ := (mem_dfs hT (by simp)).1 h
   exact h0 (by rw [List.nil_append] at h1; rw [← (ent_mem h1).2, (ent_mem hr).2])
  ·rcases List.mem_cons.1 he with rfl | he
   ·exact (ent_mem hr).1
   ·obtain ⟨t, _, h1⟩ := (mem_dfs hT (by simp)).1 he
    exact (ent_mem h1).1
 have h2 : E.length ≤ (r :: dfs E 9 []).length := by
  refine nodup_le ((List.pairwise_map.1 hT.nd).imp fun {a b} h e => h (by rw [e])) fun e he => ?_
  by_cases h0 : e.p = []
  ·have := hT.of he
   rw [h0, hr] at this
   cases this; simp
  ·exact List.mem_cons_of_mem _ ((mem_dfs hT (by simp)).2 ⟨e.p, h0, by simpa using hT.of he⟩)
 unfold filesE
 simp only [List.length_map, List.length_cons] at h1 h2 ⊢
 omega
theorem parent_row {N : NP} {n : List UInt8} (h : POK (N ++ [n])) : parentP (joinS (N ++ [n])) = (joinS N, n, 0) := by
 have hsp := h.sp
 have h0 : joinS (N ++ [n]) ≠ [] := fun e => by
  have := hsp.2; rw [e] at this; exact absurd (this.symm.trans rfl : N ++ [n] = []) (by simp)
 refine parentP_some h0 hsp.1 ?_
 rw [← namesP_some h0, namesP_splitN hsp.1, hsp.2]
theorem namesL_eq {g : Gf} {p : List UInt8} (hT : TI E) (h : Rel (absE E) l) (hp : splitE p = 0) : namesL l p = ksE E (splitN p) := by
 have hG := hT.gi
 have hok : ∀ q v, absE E q = some v → POK q := fun q v hv => (hG.ok q v hv).1
 have hrow : ∀ x ∈ l, ∃ N n, splitN x.1 = N ++ [n] ∧ parentP x.1 = (joinS N, n, 0) ∧ POK (N ++ [n]) ∧ x.1 = joinS (N ++ [n]) := fun x hx => by
  obtain ⟨h1, h2, h3, h4⟩ := h.name hok hx
  refine ⟨(splitN x.1).dropLast, (splitN x.1).getLast h2, (List.dropLast_concat_getLast h2).symm, ?_, ?_, ?_⟩
  ·have := parent_row (N := (splitN x.1).dropLast) (n := (splitN x.1).getLast h2) (by rw [List.dropLast_concat_getLast h2]; exact POK_split h1)
   rwa [List.dropLast_concat_getLast h2, joinS_splitN h1] at this
  ·rw [List.dropLast_concat_getLast h2]; exact POK_split h1
  ·rw [List.dropLast_concat_getLast h2, joinS_splitN h1]
 refine strict_ext ?_ (ksE_strict hT) fun n => ?_
 ·unfold namesL
  rw [List.pairwise_map, List.pairwise_filter]
  refine List.Pairwise.imp_of_mem (fun {a b} ha hb hlt h1 h2 => ?_) h.srt
  obtain ⟨N, n, _, a2, a3, a4⟩ := hrow a ha
  obtain ⟨M, m, _, b2, b3, b4⟩ := hrow b hb
  rw [a2] at h1 ⊢
  rw [b2] at h2 ⊢
  simp only [decide_eq_true_eq] at h1 h2 ⊢
  have hNM : N = M := POK.inj a3.pre b3.pre (by rw [h1, h2])
  subst hNM
  unfold ltR at hlt
  rw [a4, b4, cmpP_join a3.2.1 b3.2.1] at hlt
  have h3 := (ltP_pre N (a := [n]) (b := [m])).1 hlt
  unfold ltP at h3
  unfold ltS
  unfold compareL at h3
  split at h3
  ·exact h3
  ·exact absurd h3 (by decide)
 ·rw [mem_ksE hT]
  unfold namesL
  rw [List.mem_map]
  constructor
  ·rintro ⟨x, hx, h1⟩
   rw [List.mem_filter] at hx
   obtain ⟨hx, h2⟩ := hx
   obtain ⟨N, m, a1, a2, a3, a4⟩ := hrow x hx
   rw [a2] at h1 h2
   simp only [decide_eq_true_eq] at h1 h2
   subst h1
   have hN : N = splitN p := by rw [← h2, a3.pre.sp.2]
   subst hN
   obtain ⟨_, _, g3, _⟩ := h.name hok hx
   rw [a1] at g3
   obtain ⟨e, he, _⟩ := absE_ent g3
   exact ⟨e, he⟩
  ·rintro ⟨e, he⟩
   have hv := absE_at he
   have hP := hok _ _ hv
   refine ⟨(joinS (splitN p ++ [n]), (e.dir, e.data)), List.mem_filter.2 ⟨(h.mem _).2 ⟨_, by simp, rfl, hv⟩, ?_⟩, ?_⟩
   ·rw [parent_row hP]; simp [joinS_splitN hp]
   ·rw [parent_row hP]
theorem Rel.list {p : List UInt8} (hT : TI E) (h : Rel (absE E) l) : listL l p = (if listG (absE E) p = 0 then ksE E (splitN p) else [], listG (absE E) p) := by
 have hG := hT.gi
 unfold listL listG
 rw [h.findL hG]
 by_cases h1 : findG (absE E) p = 0
 ·have hp : splitE p = 0 := Classical.byContradiction fun hp => by rw [findG_bad hp] at h1; exact hp h1
  simp only [findV, h1, if_true]
  split
  ·rw [if_pos rfl, namesL_eq (g := absE E) hT h hp]
  ·rfl
 ·simp only [h1, if_false]
end
end Go.Proofs.YtigfbpbnohkokaaGreat

namespace Go.Proofs.YtigfbpbnohkokaaGreat
open Go Go.Fw Go.RowKit
set_option linter.unusedVariables false
set_option linter.unusedSimpArgs false

/-- Does one stand in another that is no directory? -/
def BadAt (l : List Raw) (i k : Nat) : Prop := ∃ x y, l[i]? = some x ∧ l[k]? = some y ∧ i ≠ k ∧ x.2.1 = false ∧ underP y.1 x.1 = true
def badL (l : List Raw) : Prop := ∃ i k, BadAt l i k
/-- The directories that a path stands in, laid. -/
def fillX (N : NP) (t : List Raw) : Nat → List Raw
 | 0 => t
 | k + 1 => if 0 ≤ atR (fillX N t k) (joinS (N.take (k + 1))) then fillX N t k else withR (fillX N t k) (joinS (N.take (k + 1)), true, [])
def fillL (l t : List Raw) : List Raw := l.foldl (fun t x => fillX (splitN x.1) t ((splitN x.1).length - 1)) t
open Classical in
noncomputable def ofL (l : List Raw) : List Raw × Int :=
 if firstR l ≠ 0 then ([], firstR l) else if ¬ (l.map (·.1)).Nodup then ([], 10) else if badL l then ([], 17) else
  if 128 < (fillL l (l.foldl withR [])).length then ([], 7) else (fillL l (l.foldl withR []), 0)

theorem layI_val {g : Gf} {N : NP} {dir : Bool} {b : List UInt8} : ∀ {j : Nat}, j ≤ N.length → ∀ r : NP, layI g N dir b j r = if (g r).isSome = true then g r else if r ≠ [] ∧ r.length ≤ j ∧ r.isPrefixOf N = true then some (if r = N ∧ dir = false then (false, b) else (true, [])) else none
 | 0, _, r => by
  unfold layI
  cases hr : g r with
  | some v => simp
  | none =>
   rw [if_neg (by simp), if_neg]
   rintro ⟨h1, h2, _⟩
   exact h1 (List.length_eq_zero_iff.1 (by omega))
 | j + 1, hj, r => by
  have ih := layI_val (g := g) (N := N) (dir := dir) (b := b) (j := j) (by omega)
  unfold layI
  have hlen : (N.take (j + 1)).length = j + 1 := by simp; omega
  have hpre : (N.take (j + 1)).isPrefixOf N = true := ipf.2 ⟨N.drop (j + 1), (List.take_append_drop _ _).symm⟩
  have hne : N.take (j + 1) ≠ [] := fun e => by rw [e] at hlen; simp at hlen
  have hat : layI g N dir b j (N.take (j + 1)) = g (N.take (j + 1)) := by
   rw [ih]
   split
   ·rfl
   ·rename_i h
    rw [if_neg (fun e => by have := e.2.1; omega)]
    simpa using (by simpa using h : g (N.take (j + 1)) = none).symm
  have hfull : (N.take (j + 1) = N ↔ j + 1 = N.length) := ⟨fun e => by have := congrArg List.length e; rw [hlen] at this; exact this, fun e => List.take_of_length_le (by omega)⟩
  by_cases hr : r = N.take (j + 1)
  ·subst hr
   rw [hat]
   cases hg : g (N.take (j + 1)) with
   | some v => simp only [reduceCtorEq, if_false, Option.isSome_some, if_true]; rw [hat, hg]
   | none =>
    simp only [if_true, Option.isSome_none, Bool.false_eq_true, if_false]
    unfold setG
    rw [if_pos rfl, if_pos (show N.take (j + 1) ≠ [] ∧ (N.take (j + 1)).length ≤ j + 1 ∧ (N.take (j + 1)).isPrefixOf N = true from ⟨hne, by omega, hpre⟩)]
    simp only [hfull]
  ·have e1 : (if layI g N dir b j (N.take (j + 1)) = none then setG (layI g N dir b j) (N.take (j + 1)) (some (if j + 1 = N.length ∧ dir = false then (false, b) else (true, []))) else layI g N dir b j) r = layI g N dir b j r := by
    split
    ·unfold setG; rw [if_neg hr]
    ·rfl
   rw [e1, ih]
   have e2 : (r ≠ [] ∧ r.length ≤ j ∧ r.isPrefixOf N = true) ↔ (r ≠ [] ∧ r.length ≤ j + 1 ∧ r.isPrefixOf N = true) := by
    constructor
    ·rintro ⟨h1, h2, h3⟩; exact ⟨h1, by omega, h3⟩
    ·rintro ⟨h1, h2, h3⟩
     refine ⟨h1, ?_, h3⟩
     obtain ⟨t, ht⟩ := ipf.1 h3
     rcases Nat.lt_or_ge j r.length with h4 | h4
     ·exfalso
      apply hr
      have : r.length = j + 1 := by omega
      rw [ht, List.take_append_of_le_length (by omega), ← this, List.take_length]
     ·exact h4
   simp only [e2]
theorem layG_val (g : Gf) (x : Raw) (r : NP) : layG g x r = if (g r).isSome = true then g r else if r ≠ [] ∧ r.isPrefixOf (splitN x.1) = true then some (if r = splitN x.1 ∧ x.2.1 = false then (false, x.2.2) else (true, [])) else none := by
 unfold layG
 rw [layI_val (Nat.le_refl _)]
 have : (r ≠ [] ∧ r.length ≤ (splitN x.1).length ∧ r.isPrefixOf (splitN x.1) = true) ↔ (r ≠ [] ∧ r.isPrefixOf (splitN x.1) = true) := by
  constructor
  ·rintro ⟨h1, _, h3⟩; exact ⟨h1, h3⟩
  ·rintro ⟨h1, h3⟩
   obtain ⟨t, ht⟩ := ipf.1 h3
   exact ⟨h1, by rw [ht]; simp, h3⟩
 simp only [this]

/-- What stands at a path, of given files. -/
def ofG (l : List Raw) (r : NP) : Option (Bool × List UInt8) := match l.find? (fun x => decide (splitN x.1 = r)) with
 | some x => some x.2
 | none => if l.any (fun x => r.isPrefixOf (splitN x.1)) = true then some (true, []) else none
structure OkL (l : List Raw) : Prop where
 one : ∀ x ∈ l, splitE x.1 = 0 ∧ splitN x.1 ≠ [] ∧ (x.2.1 = true → x.2.2 = []) ∧ x.2.2.length ≤ 65536
 nd : (l.map (·.1)).Nodup
 top : ∀ x ∈ l, ∀ y ∈ l, y.2.1 = false → ∀ t, t ≠ [] → splitN x.1 ≠ splitN y.1 ++ t
theorem OkL.inj {l : List Raw} (h : OkL l) {x y : Raw} (hx : x ∈ l) (hy : y ∈ l) (he : splitN x.1 = splitN y.1) : x = y := by
 have h1 : x.1 = y.1 := by rw [← joinS_splitN (h.one x hx).1, ← joinS_splitN (h.one y hy).1, he]
 have hn := h.nd
 rw [List.Nodup, List.pairwise_map] at hn
 exact Classical.byContradiction fun hne => by
  obtain ⟨i, hi⟩ := List.mem_iff_getElem?.1 hx
  obtain ⟨j, hj⟩ := List.mem_iff_getElem?.1 hy
  obtain ⟨a1, a2⟩ := List.getElem?_eq_some_iff.1 hi
  obtain ⟨b1, b2⟩ := List.getElem?_eq_some_iff.1 hj
  rcases Nat.lt_trichotomy i j with h3 | h3 | h3
  ·exact (List.pairwise_iff_getElem.1 hn i j a1 b1 h3) (by rw [a2, b2, h1])
  ·subst h3; exact hne (a2.symm.trans b2)
  ·exact (List.pairwise_iff_getElem.1 hn j i b1 a1 h3) (by rw [a2, b2, h1])
theorem OkL.find {l : List Raw} (h : OkL l) {x : Raw} {r : NP} (hx : x ∈ l) (he : splitN x.1 = r) : l.find? (fun x => decide (splitN x.1 = r)) = some x := by
 cases hf : l.find? (fun x => decide (splitN x.1 = r)) with
 | none => exact absurd (List.find?_eq_none.1 hf x hx) (by simp [he])
 | some y =>
  have h1 := List.mem_of_find?_eq_some hf
  have h2 := List.find?_some hf
  simp at h2
  rw [h.inj h1 hx (by rw [h2, he])]
theorem OkL.of {l : List Raw} (h1 : ∀ x ∈ l, singleR x = 0) (h2 : togetherR l = 0) : OkL l := by
 obtain ⟨h3, h4⟩ := together_ok h2
 exact ⟨fun x hx => single_ok (h1 x hx), h3, fun x hx y hy hyd t ht he => h4 ⟨x, hx, y, hy, hyd, t, ht, he⟩⟩

theorem lays_val {l : List Raw} (h : OkL l) : ∀ {j : Nat}, j ≤ l.length → ∀ r : NP, ((l.take j).foldl layG gNew) r = if r = [] then some (true, []) else ofG (l.take j) r
 | 0, _, r => by
  simp only [List.take_zero, List.foldl_nil, gNew]
  split
  ·rfl
  ·simp [ofG]
 | j + 1, hj, r => by
  obtain ⟨x, hx⟩ := get_lt (l := l) (q := j) (by omega)
  have hxm := List.mem_of_getElem? hx
  have ih := lays_val h (j := j) (by omega) r
  rw [take_mem hx, List.foldl_append]
  simp only [List.foldl_cons, List.foldl_nil]
  rw [layG_val, ih]
  by_cases h0 : r = []
  ·subst h0; simp
  ·simp only [h0, if_false]
   unfold ofG
   rw [List.find?_append, List.any_append]
   cases hf : (l.take j).find? (fun x => decide (splitN x.1 = r)) with
   | some y => simp
   | none =>
    have hno : ∀ y ∈ l.take j, splitN y.1 ≠ r := fun y hy => by simpa using List.find?_eq_none.1 hf y hy
    simp only [Option.none_or, List.find?_cons, List.find?_nil, List.any_cons, List.any_nil, Bool.or_false]
    by_cases hr : splitN x.1 = r
    ·subst hr
     have hpp : (splitN x.1).isPrefixOf (splitN x.1) = true := ipf.2 ⟨[], by simp⟩
     simp only [decide_true, hpp, ne_eq, h0, not_false_eq_true, and_self, if_true, true_and]
     cases ha : (l.take j).any (fun y => (splitN x.1).isPrefixOf (splitN y.1)) with
     | true =>
      simp only [if_true, Option.isSome_some]
      obtain ⟨y, hy, hp⟩ := List.any_eq_true.1 ha
      obtain ⟨t, ht⟩ := ipf.1 hp
      have ht0 : t ≠ [] := fun e => hno y hy (by rw [ht, e, List.append_nil])
      have hd : x.2.1 = true := by
       cases hd : x.2.1 with
       | true => rfl
       | false => exact absurd ht (h.top y (List.mem_of_mem_take hy) x hxm hd t ht0)
      congr 1
      exact Prod.ext hd.symm ((h.one x hxm).2.2.1 hd).symm
     | false =>
      simp only [Bool.false_eq_true, if_false, Option.isSome_none]
      congr 1
      cases hd : x.2.1 with
      | true =>
       rw [if_neg (by simp)]
       exact Prod.ext hd.symm ((h.one x hxm).2.2.1 hd).symm
      | false =>
       rw [if_pos rfl]
       exact Prod.ext hd.symm rfl
    ·simp only [hr, decide_false]
     cases ha : (l.take j).any (fun y => r.isPrefixOf (splitN y.1)) with
     | true => simp
     | false =>
      simp only [Bool.false_eq_true, if_false, Option.isSome_none, Bool.false_or]
      by_cases hp : r.isPrefixOf (splitN x.1) = true
      ·rw [if_pos ⟨h0, hp⟩, if_pos hp, if_neg (fun e => hr e.1.symm)]
      ·rw [if_neg (fun e => hp e.2), if_neg hp]
theorem lay_all {l : List Raw} (h : OkL l) (r : NP) : (l.foldl layG gNew) r = if r = [] then some (true, []) else ofG l r := by
 have := lays_val h (Nat.le_refl _) r
 rwa [List.take_length] at this

/-- On the way through the directories of given files. -/
structure FillI (l t : List Raw) : Prop where
 srt : t.Pairwise ltR
 old : ∀ y ∈ l, y ∈ t
 new : ∀ y ∈ t, y ∈ l ∨ (y.2 = (true, []) ∧ (∀ z ∈ l, z.1 ≠ y.1) ∧ ∃ x ∈ l, ∃ i, 1 ≤ i ∧ i < (splitN x.1).length ∧ y.1 = joinS ((splitN x.1).take i))
theorem FillI.start {l : List Raw} (h : OkL l) : FillI l (l.foldl withR []) := by
 have hm : ∀ y, y ∈ l.foldl withR [] ↔ y ∈ l := fun y => by
  have := foldW_mem (g := id) (l := l) (A := []) (y := y)
  simpa using this
 refine ⟨?_, fun y hy => (hm y).2 hy, fun y hy => .inl ((hm y).1 hy)⟩
 exact foldW_srt (f := id) List.Pairwise.nil h.nd (by simp)
theorem FillI.fill {l : List Raw} {x : Raw} (hx : x ∈ l) : ∀ {t : List Raw} (k : Nat), FillI l t → k < (splitN x.1).length → FillI l (fillX (splitN x.1) t k) ∧ (∀ y ∈ t, y ∈ fillX (splitN x.1) t k) ∧ ∀ i, 1 ≤ i → i ≤ k → ∃ y ∈ fillX (splitN x.1) t k, y.1 = joinS ((splitN x.1).take i)
 | t, 0, h, _ => ⟨h, fun y hy => hy, fun i h1 h2 => by omega⟩
 | t, k + 1, h, hk => by
  obtain ⟨h1, h2, h3⟩ := FillI.fill hx k h (by omega)
  unfold fillX
  split
  ·rename_i hat
   refine ⟨h1, h2, fun i hi1 hi2 => ?_⟩
   rcases Nat.lt_or_ge k i with h4 | h4
   ·have : i = k + 1 := by omega
    subst this
    rcases atR_cases (fillX (splitN x.1) t k) (joinS ((splitN x.1).take (k + 1))) with ⟨j, y, a1, a2, _⟩ | ⟨_, a2⟩
    ·exact ⟨y, List.mem_of_getElem? a1, a2⟩
    ·omega
   ·exact h3 i hi1 h4
  ·rename_i hat
   have hno : ∀ y ∈ fillX (splitN x.1) t k, y.1 ≠ joinS ((splitN x.1).take (k + 1)) := by
    rcases atR_cases (fillX (splitN x.1) t k) (joinS ((splitN x.1).take (k + 1))) with ⟨j, y, a1, a2, a3, _⟩ | ⟨a1, _⟩
    ·omega
    ·exact a1
   refine ⟨⟨withR_srt h1.srt hno, fun y hy => withR_mem.2 (.inr (h1.old y hy)), fun y hy => ?_⟩, fun y hy => withR_mem.2 (.inr (h2 y hy)), fun i hi1 hi2 => ?_⟩
   ·rcases withR_mem.1 hy with rfl | hy
    ·exact .inr ⟨rfl, fun z hz => hno z (h1.old z hz), x, hx, k + 1, by omega, hk, rfl⟩
    ·exact h1.new y hy
   ·rcases Nat.lt_or_ge k i with h4 | h4
    ·have : i = k + 1 := by omega
     subst this
     exact ⟨_, withR_mem.2 (.inl rfl), rfl⟩
    ·obtain ⟨y, hy, he⟩ := h3 i hi1 h4
     exact ⟨y, withR_mem.2 (.inr hy), he⟩
theorem FillI.all {l : List Raw} (h : OkL l) : ∀ {m t : List Raw}, (∀ x ∈ m, x ∈ l) → FillI l t → FillI l (fillL m t) ∧ (∀ y ∈ t, y ∈ fillL m t) ∧ ∀ x ∈ m, ∀ i, 1 ≤ i → i < (splitN x.1).length → ∃ y ∈ fillL m t, y.1 = joinS ((splitN x.1).take i)
 | [], t, _, hF => ⟨hF, fun y hy => hy, by simp⟩
 | x :: m, t, hm, hF => by
  have hx := hm x (by simp)
  have hlen : 0 < (splitN x.1).length := List.length_pos_iff.2 (h.one x hx).2.1
  obtain ⟨h1, h2, h3⟩ := FillI.fill hx ((splitN x.1).length - 1) hF (by omega)
  obtain ⟨g1, g2, g3⟩ := FillI.all h (m := m) (fun y hy => hm y (by simp [hy])) h1
  refine ⟨g1, fun y hy => g2 y (h2 y hy), fun z hz i hi1 hi2 => ?_⟩
  rcases List.mem_cons.1 hz with rfl | hz
  ·obtain ⟨y, hy, he⟩ := h3 i hi1 (by omega)
   exact ⟨y, g2 y hy, he⟩
  ·exact g3 z hz i hi1 hi2
theorem fill_rel {l : List Raw} (h : OkL l) : Rel (l.foldl layG gNew) (fillL l (l.foldl withR [])) := by
 obtain ⟨h1, h2, h3⟩ := FillI.all h (fun _ hx => hx) (FillI.start h)
 refine ⟨h1.srt, fun z => ?_⟩
 have hpk : ∀ x ∈ l, ∀ i, POK ((splitN x.1).take i) := fun x hx i => (POK_split (h.one x hx).1).take i
 constructor
 ·intro hz
  rcases h1.new z hz with hzl | ⟨hz2, hz3, x, hx, i, hi1, hi2, hi3⟩
  ·obtain ⟨a1, a2, a3, a4⟩ := h.one z hzl
   refine ⟨splitN z.1, a2, (joinS_splitN a1).symm, ?_⟩
   rw [lay_all h, if_neg a2]
   unfold ofG
   rw [h.find hzl rfl]
  ·have hne : (splitN x.1).take i ≠ [] := fun e => by have := congrArg List.length e; rw [List.length_take, List.length_nil] at this; omega
   refine ⟨(splitN x.1).take i, hne, hi3, ?_⟩
   rw [lay_all h, if_neg hne]
   unfold ofG
   have hf : l.find? (fun x_1 => decide (splitN x_1.1 = (splitN x.1).take i)) = none := List.find?_eq_none.2 fun y hy e => by
    simp at e
    exact hz3 y hy (by rw [hi3, ← e, joinS_splitN (h.one y hy).1])
   rw [hf]
   simp only
   rw [if_pos (List.any_eq_true.2 ⟨x, hx, ipf.2 ⟨(splitN x.1).drop i, (List.take_append_drop _ _).symm⟩⟩), hz2]
 ·rintro ⟨N, h0, hN, hv⟩
  rw [lay_all h, if_neg h0] at hv
  unfold ofG at hv
  cases hf : l.find? (fun x => decide (splitN x.1 = N)) with
  | some y =>
   rw [hf] at hv
   have hy := List.mem_of_find?_eq_some hf
   have he := List.find?_some hf
   simp at he
   have : z = y := Prod.ext (by rw [hN, ← he, joinS_splitN (h.one y hy).1]) (Option.some.inj hv).symm
   rw [this]
   exact h1.old y hy
  | none =>
   rw [hf] at hv
   simp only at hv
   split at hv
   ·rename_i ha
    obtain ⟨x, hx, hp⟩ := List.any_eq_true.1 ha
    obtain ⟨t, ht⟩ := ipf.1 hp
    have hno : ∀ y ∈ l, splitN y.1 ≠ N := fun y hy => by simpa using List.find?_eq_none.1 hf y hy
    have ht0 : t ≠ [] := fun e => hno x hx (by rw [ht, e, List.append_nil])
    have hNt : N = (splitN x.1).take N.length := by rw [ht, List.take_left' rfl]
    obtain ⟨y, hy, he⟩ := h3 x hx N.length (by cases N with | nil => exact absurd rfl h0 | cons a b => simp) (by rw [ht]; simp; exact List.length_pos_iff.2 ht0)
    rw [← hNt] at he
    have : z = y := by
     refine Prod.ext (hN.trans he.symm) ?_
     rcases h1.new y hy with hyl | ⟨h4, _⟩
     ·exfalso
      refine hno y hyl ?_
      have := (hpk x hx N.length).sp.2
      rw [← hNt] at this
      rw [he, this]
     ·rw [h4]; exact (Option.some.inj hv).symm
    rw [this]
    exact hy
   ·cases hv
theorem bad_LR {l : List Raw} (h1 : ∀ x ∈ l, singleR x = 0) (hn : (l.map (·.1)).Nodup) : badL l ↔ badR l := by
 constructor
 ·rintro ⟨i, k, x, y, hi, hk, hne, hd, hu⟩
  have hx := List.mem_of_getElem? hi
  have hy := List.mem_of_getElem? hk
  obtain ⟨a1, _⟩ := single_ok (h1 x hx)
  obtain ⟨b1, _⟩ := single_ok (h1 y hy)
  rw [underP_eq] at hu
  simp only [Bool.and_eq_true, decide_eq_true_eq] at hu
  obtain ⟨t, ht⟩ := ipf.1 hu.2
  refine ⟨y, hy, x, hx, hd, t, fun e => hne ?_, ht⟩
  subst e
  rw [List.append_nil] at ht
  have he : x.1 = y.1 := by rw [← joinS_splitN a1, ← joinS_splitN b1, ht]
  have g1 : (l.map (·.1))[i]? = some x.1 := by simp [hi]
  have g2 : (l.map (·.1))[k]? = some x.1 := by simp [hk, he]
  obtain ⟨c1, c2⟩ := List.getElem?_eq_some_iff.1 g1
  obtain ⟨d1, d2⟩ := List.getElem?_eq_some_iff.1 g2
  exact (List.getElem_inj hn).1 (c2.trans d2.symm)
 ·rintro ⟨x, hx, y, hy, hd, t, ht, he⟩
  obtain ⟨a1, _⟩ := single_ok (h1 x hx)
  obtain ⟨b1, _⟩ := single_ok (h1 y hy)
  obtain ⟨i, hi⟩ := List.mem_iff_getElem?.1 hx
  obtain ⟨k, hk⟩ := List.mem_iff_getElem?.1 hy
  refine ⟨k, i, y, x, hk, hi, fun e => ?_, hd, ?_⟩
  ·subst e
   rw [hi] at hk
   cases hk
   exact ht (by have := congrArg List.length he; simp at this; exact this)
  ·rw [underP_eq, a1, b1, he, ipf_app]; rfl

section
variable {l t : List Raw} {x : Raw} {N : NP} {j k : Nat}
theorem fold_mem {y : Raw} : y ∈ l.foldl withR [] ↔ y ∈ l := by
 have := foldW_mem (g := id) (l := l) (A := []) (y := y)
 simpa using this
theorem fold_len : (l.foldl withR []).length = l.length := by
 have := foldW_len (g := id) l []
 simpa using this
theorem ofL_at {c : Int} (hx : l[j]? = some x) (hok : ∀ y ∈ l.take j, singleR y = 0) (hs : singleR x = c) (hc : c ≠ 0) : ofL l = ([], c) := by
 have h := firstR_at hx hok (by rw [hs]; exact hc)
 unfold ofL
 rw [if_pos (by rw [h, hs]; exact hc), h, hs]
theorem ofL_2 (h0 : firstR l = 0) (h : ¬ (l.map (·.1)).Nodup) : ofL l = ([], 10) := by
 unfold ofL; rw [if_neg (by simp [h0]), if_pos h]
theorem ofL_3 (h0 : firstR l = 0) (h : (l.map (·.1)).Nodup) (hb : badL l) : ofL l = ([], 17) := by
 unfold ofL; rw [if_neg (by simp [h0]), if_neg (fun e => e h), if_pos hb]
theorem ofL_4 (h0 : firstR l = 0) (h : (l.map (·.1)).Nodup) (hb : ¬ badL l) : ofL l = if 128 < (fillL l (l.foldl withR [])).length then ([], 7) else (fillL l (l.foldl withR []), 0) := by
 unfold ofL; rw [if_neg (by simp [h0]), if_neg (fun e => e h), if_neg hb]
theorem fillX_no (h : ¬ 0 ≤ atR (fillX N t k) (joinS (N.take (k + 1)))) : fillX N t (k + 1) = withR (fillX N t k) (joinS (N.take (k + 1)), true, []) := by
 conv => lhs; unfold fillX
 rw [if_neg h]
theorem fillX_yes (h : 0 ≤ atR (fillX N t k) (joinS (N.take (k + 1)))) : fillX N t (k + 1) = fillX N t k := by
 conv => lhs; unfold fillX
 rw [if_pos h]
theorem fillX_len : ∀ (k : Nat), (fillX N t k).length ≤ t.length + k
 | 0 => Nat.le_refl _
 | k + 1 => by
  have := fillX_len k
  unfold fillX
  split
  ·omega
  ·rw [withR_len]; omega
theorem fillX_names (hN : POK N) (ht : ∀ y ∈ t, y.1.length ≤ 2000) : ∀ (k : Nat), ∀ y ∈ fillX N t k, y.1.length ≤ 2000
 | 0, y, hy => ht y hy
 | k + 1, y, hy => by
  unfold fillX at hy
  split at hy
  ·exact fillX_names hN ht k y hy
  ·rcases withR_mem.1 hy with rfl | hy
   ·have := (hN.take (k + 1)).2.2
    simp only; omega
   ·exact fillX_names hN ht k y hy
theorem fillL_step (hx : l[j]? = some x) : fillL (l.take (j + 1)) t = fillX (splitN x.1) (fillL (l.take j) t) ((splitN x.1).length - 1) := by
 unfold fillL
 rw [take_mem hx, List.foldl_append]; rfl
theorem fillL_len : ∀ (l t : List Raw), (fillL l t).length ≤ t.length + 8 * l.length
 | [], t => by simp [fillL]
 | x :: l, t => by
  have h1 := fillL_len l (fillX (splitN x.1) t ((splitN x.1).length - 1))
  have h2 := fillX_len (N := splitN x.1) (t := t) ((splitN x.1).length - 1)
  have h3 := splitN_len x.1
  unfold fillL at h1 ⊢
  simp only [List.foldl_cons, List.length_cons]
  omega
theorem fillL_names : ∀ {l t : List Raw}, (∀ x ∈ l, splitE x.1 = 0) → (∀ y ∈ t, y.1.length ≤ 2000) → ∀ y ∈ fillL l t, y.1.length ≤ 2000
 | [], t, _, ht => ht
 | x :: l, t, hl, ht => fillL_names (l := l) (fun z hz => hl z (by simp [hz])) (fillX_names (POK_split (hl x (by simp))) ht _)
theorem badAt_step {a b : Nat} (h : ∀ k < b, ¬ BadAt l a k) (hb : ¬ BadAt l a b) : ∀ k < b + 1, ¬ BadAt l a k := fun k hk => by
 rcases Nat.lt_or_ge k b with h1 | h1
 ·exact h k h1
 ·have : k = b := by omega
  subst this; exact hb
theorem badAt_row {a : Nat} (h : ∀ i < a, ∀ k, ¬ BadAt l i k) (hb : ∀ k < l.length, ¬ BadAt l a k) : ∀ i < a + 1, ∀ k, ¬ BadAt l i k := fun i hi k => by
 rcases Nat.lt_or_ge i a with h1 | h1
 ·exact h i h1 k
 ·have : i = a := by omega
  subst this
  intro hbad
  have hbad' := hbad
  obtain ⟨x, y, h1, h2, _⟩ := hbad'
  exact hb k (List.getElem?_eq_some_iff.1 h2).1 hbad
theorem nilK {w0 : World} : FilesK w0 [] (.slice none 0 0) [] := FilesK.own (L := []) ⟨[], [], [], rfl, rfl, OwL.nil, by simp⟩
end
end Go.Proofs.YtigfbpbnohkokaaGreat

namespace Go.Fw
open Go Go.RowKit
set_option linter.unusedVariables false
set_option linter.unusedSimpArgs false

theorem run_freeze_end {P : Program} {w : World} {b : Nat} {cs : List Value} {T : TypeId} (hb : w.heap[b]? = some (.cells cs.toArray T (0, 0))) :
  (markStringish ⟨b, 0, none⟩).run P w = .ok () (w.putObj b (.cells cs.toArray T (cs.length, cs.length + 1))) := by
 have hsh : w.shape? b = some (T, cs.length) := by simp [World.shape?, hb]
 have hf : w.freeze ⟨b, cs.length, none⟩ 1 = w.putObj b (.cells cs.toArray T (cs.length, cs.length + 1)) := by
  unfold World.freeze
  rw [if_neg (by decide)]
  simp only [World.putObj]
  congr 1
  apply Array.ext_getElem?
  intro k
  rw [Array.getElem?_modify, Array.getElem?_setIfInBounds]
  split
  ·rename_i hk
   subst hk
   obtain ⟨hlt, he⟩ := Array.getElem?_eq_some_iff.1 hb
   simp [hlt, he]
  ·rfl
 simp [markStringish, run_shape, hsh, hf]

/-- A conversion of bytes to bytes: what is told by a text is marked. -/
theorem x_cvsl {P : Program} {n : Nat} {ops : Array Oper} {B : Array Nat} {dr : Bool} {K : KT} {s : List (Nat × Bool)} {F : Env} {ds : List Deferred} {T : List (Nat × (World → Prop))} {w : World} {i : Nat}
  {d : Option Tmp} {ty : TypeId} {ps : String} {af : Array Edge} {g : Option (Nat × Bool)} {x : Operand} {t t2 e Tb : TypeId} {b len cap : Nat} {cs : List Value}
  (ho : ops[i]? = some ⟨d, .convert t t2 x, ty, ps, af, g⟩) (hg : guardV ops F g = some true) (hd : dstOK n d = true) (htt : t = t2) (ht : P.underlying t = some (.slice e)) (he : P.underlying e = some (.int .u8))
  (hx : ev? F x = some (.slice (some ⟨b, 0, none⟩) len cap)) (hb : w.heap[b]? = some (.cells cs.toArray Tb (0, 0)))
  (h : ∀ w1, w1 = w.putObj b (.cells cs.toArray Tb (cs.length, cs.length + 1)) → pend B i T w1 ∧ Ex P n ops B dr K s (putE F d (.slice (some ⟨b, 0, none⟩) len cap)) ds T w1) : Ex P n ops B dr K ((i, true) :: s) F ds T w := by
 subst htt
 obtain ⟨g1, g2⟩ := h _ rfl
 refine x_mv ho hg hd (v := .slice (some ⟨b, 0, none⟩) len cap) (w1 := w.putObj b (.cells cs.toArray Tb (cs.length, cs.length + 1))) (fun at_ hk => ?_) g1 g2
 simp only [execOp, hk.eval hx, convert, Sem.run_bind, run_underlying ht, run_underlying he, Result.andThen_ok, beq_self_eq_true, run_freeze_end hb, Sem.run_pure]
theorem SlL.lit {L : List (Nat × Obj)} {b n : Nat} {cs : List Value} {T : TypeId} {fr : Nat × Nat} (hm : (b, Obj.cells cs.toArray T fr) ∈ L) (hn : cs.length = n) : SlL L (.slice (some ⟨b, 0, none⟩) n n) 1 n cs :=
 .inr ⟨b, 0, n, _, T, fr, rfl, Nat.le_refl _, hm, by simp [← hn], by simp [hn]⟩
end Go.Fw

namespace Go.Proofs.YtigfbpbnohkokaaGreat
open Go Go.Fw Go.RowKit
set_option linter.unusedVariables false
set_option linter.unusedSimpArgs false

/-- A tree of these rows. -/
structure TR (E : List Ent) (l : List Raw) : Prop where
 ti : TI E
 rel : Rel (absE E) l
 le : l.length ≤ 128
section
variable {E : List Ent} {l : List Raw} {w0 w00 : World} {bt : Nat} {L : List (Nat × Obj)} {p x y b : List UInt8}
theorem TR.files (h : TR E l) : filesE E = l := filesE_eq h.ti h.rel
theorem TR.len (h : TR E l) : E.length = l.length + 1 := by rw [← filesE_len h.ti, h.files]
theorem TR.le' (h : TR E l) : E.length ≤ 129 := by have := h.len; have := h.le; omega
theorem TR.full (h : TR E l) : decide (E.length = 129) = decide (128 ≤ l.length) := by
 rw [decide_eq_decide]; have := h.len; have := h.le; omega
theorem TR.of {E' : List Ent} {l' : List Raw} (hT : TI E') (hr : Rel (absE E') l') (hl : E'.length ≤ 129) : TR E' l' :=
 ⟨hT, hr, by have := filesE_len hT; rw [filesE_eq hT hr] at this; omega⟩
theorem TR.row (h : TR E l) {z : Raw} (hz : z ∈ l) : splitE z.1 = 0 ∧ splitN z.1 ≠ [] ∧ absE E (splitN z.1) = some z.2 ∧ z.1 ≠ [] := h.rel.name (fun q v hv => (h.ti.gi.ok q v hv).1) hz
theorem TR.names (h : TR E l) : ∀ z ∈ l, z.1.length ≤ 120 := fun z hz => splitE_len (h.row hz).1
theorem TR.data (h : TR E l) : ∀ z ∈ l, z.2.2.length ≤ 65536 ∧ (z.2.1 = true → z.2.2 = []) := fun z hz => (h.ti.gi.ok _ _ (h.row hz).2.2.1).2
theorem TR.at_ {S : Nat → Prop} (h : TR E l) (M : St S w00 (tb bt E ++ L) w0) : TrA w0 bt E := TrA.of h.ti M

theorem mkdir_r (M : Sep w00 (tb bt E ++ L) w0) (h : TR E l) : Ret Tryz.prog 102 #[ptr bt, strV p] w0 fun r w' => ∃ E', r = .int .i64 (mkdirL l p).2 ∧ TR E' (mkdirL l p).1 ∧ Sep w00 (tb bt E' ++ L) w' :=
 (mkdir_c M h.ti h.le').mono fun r w' ⟨E', h1, h2, h3, h4, M⟩ => by
  obtain ⟨g1, g2⟩ := h.rel.mkdir h.ti.gi p
  rw [h.full] at h1 h2
  exact ⟨E', by rw [g1]; exact h1, TR.of h3 (by rw [h2]; exact g2) h4, M⟩
theorem put_r {v : Value} (M : Sep w00 (tb bt E ++ L) w0) (h : TR E l) (hv : ∀ w M, Sep w00 M w → (∀ x ∈ L, x ∈ M) → BytesAt w v b) : Ret Tryz.prog 67 #[ptr bt, strV p, v] w0 fun r w' => ∃ E', r = .int .i64 (putL l p b).2 ∧ TR E' (putL l p b).1 ∧ Sep w00 (tb bt E' ++ L) w' :=
 (put_c M h.ti h.le' hv).mono fun r w' ⟨E', h1, h2, h3, h4, M⟩ => by
  obtain ⟨g1, g2⟩ := h.rel.put h.ti.gi p b
  rw [h.full] at h1 h2
  exact ⟨E', by rw [g1]; exact h1, TR.of h3 (by rw [h2]; exact g2) h4, M⟩
theorem remove_r (M : Sep w00 (tb bt E ++ L) w0) (h : TR E l) : Ret Tryz.prog 104 #[ptr bt, strV p] w0 fun r w' => ∃ E', r = .int .i64 (removeL l p).2 ∧ TR E' (removeL l p).1 ∧ Sep w00 (tb bt E' ++ L) w' :=
 (remove_c M h.ti h.le').mono fun r w' ⟨E', h1, h2, h3, h4, M⟩ => by
  obtain ⟨g1, g2⟩ := h.rel.remove h.ti.gi p
  exact ⟨E', by rw [g1]; exact h1, TR.of h3 (by rw [h2]; exact g2) h4, M⟩
theorem rename_r (M : Sep w00 (tb bt E ++ L) w0) (h : TR E l) : Ret Tryz.prog 105 #[ptr bt, strV x, strV y] w0 fun r w' => ∃ E', r = .int .i64 (renameL l x y).2 ∧ TR E' (renameL l x y).1 ∧ Sep w00 (tb bt E' ++ L) w' :=
 (rename_c M h.ti h.le').mono fun r w' ⟨E', h1, h2, h3, h4, M⟩ => by
  obtain ⟨g1, g2⟩ := h.rel.rename h.ti.gi x y
  exact ⟨E', by rw [g1]; exact h1, TR.of h3 (by rw [h2]; exact g2) h4, M⟩
theorem files_r (M : Sep w00 (tb bt E ++ L) w0) (h : TR E l) : Ret Tryz.prog 46 #[ptr bt] w0 fun r w' => ∃ Lr, FilesO Lr r l ∧ Sep w00 (tb bt E ++ (L ++ Lr)) w' :=
 (files_c (h.at_ M) h.le' (by have := dfs_len h.ti; have := h.le'; omega)).mono fun r w' ⟨Lr, M1, h1⟩ => by
  have h2 := h.files
  unfold filesE at h2
  rw [h2] at h1
  exact ⟨Lr, h1, by have := M.grow M1; rwa [List.append_assoc] at this⟩
theorem find_r (M : Sep w00 (tb bt E ++ L) w0) (h : TR E l) : Ret Tryz.prog 66 #[ptr bt, strV p] w0 fun r w' => ∃ dv Lr, r = .tuple #[.agg #[strV (findL l p).1.1, .bool (findL l p).1.2.1, dv], .int .i64 (findL l p).2] ∧ BytesO Lr dv (findL l p).1.2.2 ∧ Sep w00 (tb bt E ++ (L ++ Lr)) w' :=
 (findv_c (h.at_ M)).mono fun r w' ⟨dv, Lr, h1, M1, h2⟩ => by
  have h3 := h.rel.findL h.ti.gi p
  rw [h3]
  exact ⟨dv, Lr, h1, h2, by have := M.grow M1; rwa [List.append_assoc] at this⟩
theorem list_r (M : Sep w00 (tb bt E ++ L) w0) (h : TR E l) : Ret Tryz.prog 107 #[ptr bt, strV p] w0 fun r w' => ∃ v Lr, r = .tuple #[v, .int .i64 (listL l p).2] ∧ StrsO Lr v (listL l p).1 ∧ Sep w00 (tb bt E ++ (L ++ Lr)) w' :=
 (list_c (h.at_ M) h.le').mono fun r w' ⟨v, Lr, h1, M1, h2⟩ => by
  rw [h.rel.list h.ti]
  exact ⟨v, Lr, h1, h2, by have := M.grow M1; rwa [List.append_assoc] at this⟩
theorem TR.new (b m : Nat) : TR (newE b m) [] where
 ti := (TI.new b m).1
 rel := by
  refine ⟨List.Pairwise.nil, fun x => ⟨fun h => (by cases h), fun ⟨N, h0, _, h2⟩ => ?_⟩⟩
  rw [(TI.new b m).2] at h2
  unfold gNew at h2
  rw [if_neg h0] at h2
  cases h2
 le := by simp

theorem SgK.lit {w00 : World} {L : List (Nat × Obj)} {b n : Nat} {cs : List Value} {T : TypeId} {fr : Nat × Nat} (hm : (b, Obj.cells cs.toArray T fr) ∈ L) (hn : cs.length = n) : SgK w00 L (.slice (some ⟨b, 0, none⟩) n n) 1 n cs := SgK.slL (SlL.lit hm hn) (fun _ h => h)
theorem together_one (x : Raw) : togetherR [x] = 0 := by
 unfold togetherR
 rw [if_pos (by simp), if_neg]
 rintro ⟨y, hy, z, hz, _, t, ht, he⟩
 simp at hy hz
 subst hy hz
 exact ht (by have := congrArg List.length he; simp at this; exact this)
/-- Given files that may be. -/
theorem ofL_ok (h1 : ∀ x ∈ l, singleR x = 0) (h2 : togetherR l = 0) : ofL l = if 128 < (fillL l (l.foldl withR [])).length then ([], 7) else (fillL l (l.foldl withR []), 0) := by
 obtain ⟨h3, h4⟩ := together_ok h2
 exact ofL_4 (firstR_ok h1) h3 (fun e => h4 ((bad_LR h1 h3).1 e))
theorem firstR_zero : firstR l = 0 ↔ ∀ x ∈ l, singleR x = 0 := by
 constructor
 ·intro h x hx
  unfold firstR at h
  cases hf : l.find? (fun x => decide (singleR x ≠ 0)) with
  | none => simpa using List.find?_eq_none.1 hf x hx
  | some y =>
   rw [hf] at h
   have := List.find?_some hf
   simp at this
   exact absurd h this
 ·exact firstR_ok
theorem of_r {v : Value} (h : FilesAt w0 v l) (hl : l.length ≤ 1000) : Ret Tryz.prog 38 #[v] w0 fun r w' => ((ofL l).2 ≠ 0 ∧ r = .tuple #[.pointer none, .int .i64 (ofL l).2] ∧ New w0 w') ∨
  ((ofL l).2 = 0 ∧ ∃ E' bt, r = .tuple #[ptr bt, .int .i64 (ofL l).2] ∧ TR E' (ofL l).1 ∧ Sep w0 (tb bt E') w') :=
 (of_c h hl).mono fun r w' hh => by
  rcases hh with ⟨h1, h2, hn⟩ | ⟨h1, h2, h3, hn⟩ | ⟨h1, h2, h3, E', bt, hT, hab, hh⟩
  ·have : ofL l = ([], firstR l) := by unfold ofL; rw [if_pos h1]
   rw [this]
   exact .inl ⟨h1, h2, hn⟩
  ·have hs := firstR_zero.1 h1
   have : ofL l = ([], togetherR l) := by
    unfold togetherR at h2 ⊢
    by_cases hnd : (l.map (·.1)).Nodup
    ·rw [if_pos hnd] at h2 ⊢
     by_cases hb : badR l
     ·rw [if_pos hb, ofL_3 h1 hnd ((bad_LR hs hnd).2 hb)]
     ·rw [if_neg hb] at h2; exact absurd rfl h2
    ·rw [if_neg hnd, ofL_2 h1 hnd]
   rw [this]
   exact .inl ⟨h2, h3, hn⟩
  ·have hR := fill_rel (OkL.of h3 h2)
   rw [← hab] at hR
   have hlen := filesE_len hT
   rw [filesE_eq hT hR] at hlen
   rw [ofL_ok h3 h2]
   rcases hh with ⟨h4, h5, hn⟩ | ⟨h4, h5, M⟩
   ·rw [if_pos (by omega)]
    exact .inl ⟨by simp, h5, hn⟩
   ·rw [if_neg (by omega)]
    exact .inr ⟨rfl, E', bt, h5, TR.of hT hR h4, M⟩
end
end Go.Proofs.YtigfbpbnohkokaaGreat

namespace Go.Fw
open Go Go.ChangeShapes Go.WideShapes Go.ChangeAt Go.RowKit
set_option linter.unusedVariables false
set_option linter.unusedSimpArgs false
section
variable {H : Type} {enc : TypeId × Value → H} {P : Program} {W : World} {sp : Nat → Bool}

theorem rd_bytes {t e : TypeId} (ht : P.underlying t = some (.slice e)) (he : P.underlying e = some (.int .u8)) (hc : P.cellsOf e = 1) :
  Rd enc P W sp t (fun a : Value × List UInt8 => [a.1]) (fun a d => BytesAt W a.1 a.2 ∧ a.2.length ≤ maxLen ∧ ((d = .nil ∧ a.2 = []) ∨ ∃ ds rest, d = .slice ds rest ∧ ds.length = a.2.length)) := fun fuel cs x h => by
 obtain ⟨⟨v, A⟩, rfl, h1, h2, h3, h4⟩ := rd_slice ht hc (by decide) (rd_int he) fuel cs x h
 refine ⟨(v, A.map fun z => UInt8.ofNat z.toNat), rfl, ?_, by simpa using h2, by
  rcases h4 with ⟨h4, h5⟩ | ⟨ds, rest, h4, h5, _⟩
  ·exact .inl ⟨h4, by simp only at h5 ⊢; rw [h5]; rfl⟩
  ·exact .inr ⟨ds, rest, h4, by simpa using h5⟩⟩
 have hv : ∀ l : List Int, (∀ z ∈ l, (Lit.int .u8 z).wf = true) → l.flatMap (fun z : Int => [Value.int .u8 z]) = byteCs (l.map fun z => UInt8.ofNat z.toNat) := by
  intro l hl
  induction l with
  | nil => rfl
  | cons z l ih =>
   have hb := bounds_u8 (hl z (by simp))
   rw [List.flatMap_cons, ih fun y hy => hl y (by simp [hy])]
   simp only [byteCs, List.map_cons, byteV, UInt8.toNat_ofNat', List.singleton_append, List.cons.injEq, and_true]
   congr 1
   have : z.toNat % 2 ^ 8 = z.toNat := Nat.mod_eq_of_lt (by omega)
   rw [this]; omega
 have := hv A (fun z hz => by obtain ⟨_, d', hd, _⟩ := h3 z hz; exact hd)
 simp only at h1 this ⊢
 rw [this] at h1
 unfold BytesAt
 rw [List.length_map]
 exact h1
theorem rd_struct3 {t : TypeId} {f0 f1 f2 : Field} {α0 α1 α2 : Type} {c0 : α0 → Value} {c1 : α1 → Value} {c2 : α2 → Value} {R0 : α0 → DataW H → Prop} {R1 : α1 → DataW H → Prop} {R2 : α2 → DataW H → Prop} (ht : P.underlying t = some (.struct #[f0, f1, f2])) (hc : P.cellsOf t = 3)
  (h0 : f0.offset = 0 ∧ P.cellsOf f0.type = 1) (h1 : f1.offset = 1 ∧ P.cellsOf f1.type = 1) (h2 : f2.offset = 2 ∧ P.cellsOf f2.type = 1) (r0 : Rd enc P W sp f0.type (fun a => [c0 a]) R0) (r1 : Rd enc P W sp f1.type (fun a => [c1 a]) R1) (r2 : Rd enc P W sp f2.type (fun a => [c2 a]) R2) :
  Rd enc P W sp t (fun a : α0 × α1 × α2 => [c0 (a.1), c1 (a.2.1), c2 (a.2.2)]) (fun a d => ∃ d0 d1 d2, d = .agg [d0, d1, d2] ∧ R0 (a.1) d0 ∧ R1 (a.2.1) d1 ∧ R2 (a.2.2) d2) := fun fuel cs x h => by
 obtain ⟨xs, n, _, rfl, hl, hlen, hf⟩ := DataW.trod_struct ht h
 rw [hc] at hl
 match xs, hlen, cs, hl with
 | [y0, y1, y2], _, [u0, u1, u2], _ =>
  have g0 := hf 0 f0 rfl
  rw [h0.1, h0.2] at g0
  obtain ⟨a0, e0, q0⟩ := r0 n [u0] y0 g0
  have g1 := hf 1 f1 rfl
  rw [h1.1, h1.2] at g1
  obtain ⟨a1, e1, q1⟩ := r1 n [u1] y1 g1
  have g2 := hf 2 f2 rfl
  rw [h2.1, h2.2] at g2
  obtain ⟨a2, e2, q2⟩ := r2 n [u2] y2 g2
  simp only [List.cons.injEq, and_true] at e0 e1 e2
  subst e0 e1 e2
  exact ⟨(a0, a1, a2), rfl, y0.1, y1.1, y2.1, rfl, q0, q1, q2⟩
end
end Go.Fw

namespace Go.Proofs.YtigfbpbnohkokaaGreat
open Go Go.Fw Go.RowKit
set_option linter.unusedVariables false
set_option linter.unusedSimpArgs false

/-- A call: its kind, two paths, bytes. -/
structure Ac where
 k : Int
 p : List UInt8
 q : List UInt8
 b : List UInt8
def aC (a : Ac × Value) : List Value := [.int .i64 a.1.k, strV a.1.p, strV a.1.q, a.2]
/-- A slice that holds these calls. -/
def ActsAt (w : World) (v : Value) (l : List Ac) : Prop := ∃ ac : List (Ac × Value), ac.map (·.1) = l ∧ Sg w v 4 ac.length (ac.flatMap aC) ∧ ∀ f ∈ ac, BytesAt w f.2 f.1.b
section
variable {w w1 : World} {p : Option Addr} {v : Value} {l : List Ac} {a : Ac} {b off len cap j : Nat}
theorem ActsAt.new (h : ActsAt w v l) (hn : New w w1) : ActsAt w1 v l := let ⟨ac, h1, h2, h3⟩ := h; ⟨ac, h1, h2.new hn, fun f hf => (h3 f hf).new hn⟩
theorem ActsAt.shape (h : ActsAt w v l) : ∃ p cap, v = .slice p l.length cap := by
 obtain ⟨ac, h1, h2, _⟩ := h
 have : ac.length = l.length := by rw [← h1]; simp
 rw [← this]; exact h2.shape
theorem ActsAt.blk (h : ActsAt w (.slice p len cap) l) (hj : j < l.length) : ∃ b off, p = some ⟨b, off, none⟩ ∧ len = l.length := by
 obtain ⟨ac, h1, h2, _⟩ := h
 have : ac.length = l.length := by rw [← h1]; simp
 rw [← this]; exact h2.blk (j := j) (by omega)
theorem ActsAt.row (h : ActsAt w (.slice (some ⟨b, off, none⟩) len cap) l) (hx : l[j]? = some a) : ∃ p c, RowAt w b (off + j * 4) [.int .i64 a.k, strV a.p, strV a.q, .slice p a.b.length c] ∧ BytesAt w (.slice p a.b.length c) a.b := by
 obtain ⟨ac, h1, h2, h3⟩ := h
 have hj : j < l.length := (List.getElem?_eq_some_iff.1 hx).1
 have hlen : ac.length = l.length := by rw [← h1]; simp
 obtain ⟨f, hf⟩ := get_lt (l := ac) (q := j) (by omega)
 have hfx : f.1 = a := by
  rw [← h1, List.getElem?_map, hf] at hx
  simpa using hx
 subst hfx
 have h4 := h3 f (List.mem_of_getElem? hf)
 obtain ⟨p, c, h5⟩ := h4.shape
 have hsl := h2.sl (by omega)
 obtain ⟨b', off', h6, h7⟩ := h2.blk (j := j) (by omega)
 cases h6; subst h7
 refine ⟨p, c, ?_, h5 ▸ h4⟩
 rw [← h5]
 have hfd : ((ac.flatMap aC).drop (j * 4)).take (aC f).length = aC f := flat_drop (m := 4) (by decide) (fun _ _ => rfl) hf
 exact hsl.row (j := j) (l := aC f) rfl hfd (by simp [aC])
theorem mem_take_snoc {α : Type} {l : List α} {x : α} {P : α → Prop} (hx : l[j]? = some x) (h : ∀ y ∈ l.take j, P y) (hp : P x) : ∀ y ∈ l.take (j + 1), P y := fun y hy => by
 rw [take_snoc hx] at hy
 rcases List.mem_append.1 hy with hy | hy
 ·exact h y hy
 ·rw [List.mem_singleton.1 hy]; exact hp

end
section
variable {l : List Raw} {p q b : List UInt8}
theorem mkdirL_bad (h : ¬ (mkdirL l p).2 = 0) : (mkdirL l p).1 = l := by
 unfold mkdirL at h ⊢
 split
 ·rename_i h0
  rw [if_pos h0] at h
  split
  ·rfl
  ·rename_i h1
   rw [if_neg h1] at h
   split
   ·rfl
   ·rename_i h2; rw [if_neg h2] at h; exact absurd rfl h
 ·rfl
theorem putL_bad (h : ¬ (putL l p b).2 = 0) : (putL l p b).1 = l := by
 unfold putL at h ⊢
 split
 ·rename_i h0
  rw [if_pos h0] at h
  cases hf : l.find? (fun x => decide (x.1 = p)) with
  | some x =>
   rw [hf] at h
   simp only at h ⊢
   split
   ·rfl
   ·rename_i h1
    rw [if_neg h1] at h
    split
    ·rfl
    ·rename_i h2; rw [if_neg h2] at h; exact absurd rfl h
  | none =>
   rw [hf] at h
   simp only at h ⊢
   split
   ·rfl
   ·rename_i h1
    rw [if_neg h1] at h
    split
    ·rfl
    ·rename_i h2; rw [if_neg h2] at h; exact absurd rfl h
 ·rfl
theorem removeL_bad (h : ¬ (removeL l p).2 = 0) : (removeL l p).1 = l := by
 unfold removeL at h ⊢
 split
 ·rename_i h0
  rw [if_pos h0] at h
  split
  ·rfl
  ·rename_i h1
   rw [if_neg h1] at h
   split
   ·rfl
   ·rename_i h2; rw [if_neg h2] at h; exact absurd rfl h
 ·rfl
theorem renameL_bad (h : ¬ (renameL l p q).2 = 0) : (renameL l p q).1 = l := by
 unfold renameL at h ⊢
 split
 ·rename_i h0
  rw [if_pos h0] at h
  split
  ·rfl
  ·rename_i h1
   rw [if_neg h1] at h
   split
   ·rename_i h2
    rw [if_pos h2] at h
    split
    ·rfl
    ·rename_i h3
     rw [if_neg h3] at h
     split
     ·rfl
     ·rename_i h4
      rw [if_neg h4] at h
      split
      ·rfl
      ·rename_i h5
       rw [if_neg h5] at h
       split
       ·rfl
       ·rename_i h6; rw [if_neg h6] at h; exact absurd rfl h
   ·rfl
 ·rfl
end

section
variable {E : List Ent} {k : List Raw} {x y : Raw} {i j : Nat}
theorem listL_len (k : List Raw) (p : List UInt8) : (listL k p).1.length ≤ k.length := by
 unfold listL
 split
 ·split
  ·exact namesL_len k p
  ·simp
 ·simp
theorem TR.lt (h : TR E k) (hy : k[i]? = some y) (hx : k[j]? = some x) (hij : i < j) : compareP y.1 x.1 < 0 := by
 obtain ⟨a1, rfl⟩ := List.getElem?_eq_some_iff.1 hy
 obtain ⟨b1, rfl⟩ := List.getElem?_eq_some_iff.1 hx
 exact List.pairwise_iff_getElem.1 h.rel.srt i j a1 b1 hij
end
end Go.Proofs.YtigfbpbnohkokaaGreat

namespace Go.Proofs.YtigfbpbnohkokaaGreat
open Go Go.Fw Go.RowKit
set_option linter.unusedVariables false
set_option linter.unusedSimpArgs false

/-- The name at a number. -/
def nameF (i : Nat) : List UInt8 := [UInt8.ofNat (97 + i / 12), UInt8.ofNat (97 + i % 12)]
theorem nameF_inj (i : Nat) (hi : i < 144) (j : Nat) (hj : j < 144) (h : nameF i = nameF j) : i = j := by
 simp only [nameF, List.cons.injEq, and_true] at h
 have h1 := congrArg UInt8.toNat h.1
 have h2 := congrArg UInt8.toNat h.2
 simp only [UInt8.toNat_ofNat'] at h1 h2
 omega
structure FullS (l : List Raw) (i : Nat) : Prop where
 len : l.length = min i 128
 in_ : ∀ x ∈ l, ∃ j, j < min i 128 ∧ x.1 = nameF j
 all : ∀ j, j < min i 128 → ∃ x ∈ l, x.1 = nameF j
section
variable {l : List Raw} {p b : List UInt8} {i : Nat} {root : Int}
theorem findL_root (l : List Raw) : findL l [] = (([], true, []), 0) := by
 unfold findL
 rw [if_pos splitE_nil, splitN_0]; rfl
theorem FullS.nil : FullS [] 0 := ⟨rfl, by simp, fun j hj => by simp at hj⟩
theorem FullS.no (h : FullS l i) (hi : i < 144) : ∀ y ∈ l, y.1 ≠ nameF i := fun y hy e => by
 obtain ⟨j, hj, hn⟩ := h.in_ y hy
 have := nameF_inj j (by omega) i hi (hn.symm.trans e)
 omega
theorem FullS.step (h : FullS l i) (hi : i < 128) (v : Bool × List UInt8) : FullS (withR l (nameF i, v)) (i + 1) where
 len := by rw [withR_len, h.len]; omega
 in_ x hx := by
  rcases withR_mem.1 hx with rfl | hx
  ·exact ⟨i, by omega, rfl⟩
  ·obtain ⟨j, hj, hn⟩ := h.in_ x hx
   exact ⟨j, by omega, hn⟩
 all j hj := by
  rcases Nat.lt_or_ge j i with h1 | h1
  ·obtain ⟨x, hx, hn⟩ := h.all j (by omega)
   exact ⟨x, withR_mem.2 (.inr hx), hn⟩
  ·have : j = i := by omega
   subst this
   exact ⟨_, withR_mem.2 (.inl rfl), rfl⟩
end
end Go.Proofs.YtigfbpbnohkokaaGreat

namespace Go.Proofs.YtigfbpbnohkokaaGreat
open Go Go.Fw Go.RowKit
set_option linter.unusedVariables false
set_option linter.unusedSimpArgs false

/-- What is so where a renaming is done. -/
structure MvOK (g : Gf) (l : List Raw) (x y : List UInt8) : Prop where
 fx : splitE x = 0 ∧ splitN x ≠ [] ∧ g (splitN x) ≠ none
 fy : splitE y = 0 ∧ splitN y ≠ []
 ne : x ≠ y
 nu : ¬ (splitN x).isPrefixOf (splitN y) = true
 no : g (splitN y) = none
 fit : fitsG g (splitN x) (splitN y)
section
variable {E E2 : List Ent} {l : List Raw} {x y : List UInt8} {f z : Raw}
theorem TR.find_row (h : TR E l) (hz : z ∈ l) : findL l z.1 = (z, 0) := by
 obtain ⟨h1, h2, h3, h4⟩ := h.row hz
 obtain ⟨e, he, _⟩ := absE_ent h3
 obtain ⟨r, hr, _⟩ := h.ti.root
 have hf : findG (absE E) z.1 = 0 := by
  rw [findG_ok h1]
  exact (comeE_zero h.ti hr).2 ⟨e, by simpa using he⟩
 rw [h.rel.findL h.ti.gi]
 simp only [findV, hf, if_true]
 rw [h3]; rfl
theorem mv_ok (h : TR E l) (h0 : (renameL l x y).2 = 0) (hne : x ≠ y) : MvOK (absE E) l x y ∧ (renameL l x y).1 = movL x y l := by
 have hG := h.ti.gi
 have hok : ∀ q v, absE E q = some v → POK q := fun q v hv => (hG.ok q v hv).1
 unfold renameL at h0 ⊢
 by_cases h1 : (findL l x).2 = 0
 ·rw [if_pos h1] at h0 ⊢
  by_cases h2 : x = []
  ·rw [if_pos h2] at h0; cases h0
  ·rw [if_neg h2] at h0 ⊢
   by_cases h3 : homeL l y 10 = 0
   ·rw [if_pos h3] at h0 ⊢
    rw [if_neg hne] at h0 ⊢
    by_cases h5 : underP y x = true
    ·rw [if_pos h5] at h0; cases h0
    ·rw [if_neg h5] at h0 ⊢
     by_cases h6 : 0 ≤ atR l y
     ·rw [if_pos h6] at h0; cases h0
     ·rw [if_neg h6] at h0 ⊢
      by_cases h7 : l.any (badN x y) = true
      ·rw [if_pos h7] at h0; cases h0
      ·rw [if_neg h7] at h0 ⊢
       rw [h.rel.findL hG] at h1
       rw [h.rel.home hG] at h3
       have hx : splitE x = 0 := Classical.byContradiction fun hp => by rw [findG_bad hp] at h1; exact hp h1
       obtain ⟨hy, hy0, hy1⟩ := home_ok (by decide) h3
       have hx0 : splitN x ≠ [] := fun e => h2 ((sN_nil hx).1 e)
       obtain ⟨r, hr, _⟩ := h.ti.root
       obtain ⟨_, e, he⟩ := findG_ent h.ti hr h1
       refine ⟨⟨⟨hx, hx0, by rw [absE_at he]; simp⟩, ⟨hy, hy0⟩, hne, not_under hx hy (by simpa using h5), ?_, ?_⟩, rfl⟩
       ·have := mt (h.rel.at_ hok hy hy1).2 h6
        simpa using this
       ·exact Classical.byContradiction fun hc => h7 ((bad_iff hG h.rel hx hy hx0 hy0).2 hc)
   ·rw [if_neg h3] at h0; exact absurd h0 h3
 ·rw [if_neg h1] at h0; exact absurd h0 h1
theorem MvOK.above (hG : GI (absE E)) (m : MvOK (absE E) l x y) : ∀ r v, absE E (splitN y ++ r) ≠ some v := fun r v hv => by
 by_cases h0 : r = []
 ·subst h0; rw [List.append_nil, m.no] at hv; cases hv
 ·obtain ⟨b, _, h1, _⟩ := hG.pre hv h0
  rw [m.no] at h1; cases h1
theorem mv_mem : z ∈ movL x y l ↔ ∃ f ∈ l, z = mvN x y f := by
 unfold movL
 rw [foldW_mem]; simp
theorem mv_back (h : TR E l) (m : MvOK (absE E) l x y) (hf : f ∈ l) : mvN y x (mvN x y f) = f ∧ (underP (mvN x y f).1 y = underP f.1 x) := by
 have hG := h.ti.gi
 obtain ⟨a1, a2, a3, a4⟩ := h.row hf
 rcases mvN_cases hG h.rel m.fx.1 m.fy.1 m.fx.2.1 m.fy.2 hf with ⟨r, c1, c2, c3⟩ | ⟨c1, c2, c3⟩
 ·have a3' := a3
  rw [c1] at a3'
  have hsp := (m.fit r (by rw [a3']; simp)).sp
  have hu : underP (joinS (splitN y ++ r)) y = true := by rw [underP_eq, hsp.1, hsp.2, m.fy.1, ipf_app]; rfl
  rw [c3]
  refine ⟨?_, by rw [c2]; exact hu⟩
  unfold mvN
  simp only
  rw [if_pos hu, joinS_cat m.fy.2, joinS_splitN m.fy.1, List.drop_left' rfl, ← joinS_splitN m.fx.1, ← joinS_cat m.fx.2.1]
  rw [← c1, joinS_splitN a1]
 ·have hu : underP f.1 y = false := by
   rw [underP_eq, a1, m.fy.1]
   simp only [decide_true, Bool.true_and]
   cases hp : (splitN y).isPrefixOf (splitN f.1) with
   | false => rfl
   | true =>
    obtain ⟨t, ht⟩ := ipf.1 hp
    rw [ht] at a3
    exact absurd a3 (m.above hG t _)
  rw [c3]
  refine ⟨?_, by rw [c2]; exact hu⟩
  unfold mvN
  rw [hu, if_neg (by simp)]
theorem mvN_snd (x y : List UInt8) (f : Raw) : (mvN x y f).2 = f.2 := by unfold mvN; split <;> rfl
theorem rename_same (h0 : (renameL l x x).2 = 0) : (renameL l x x).1 = l := by
 unfold renameL at h0 ⊢
 split
 ·split
  ·rfl
  ·split
   ·rw [if_pos rfl]
   ·rfl
 ·rfl
end
end Go.Proofs.YtigfbpbnohkokaaGreat

namespace Go.Proofs.YtigfbpbnohkokaaGreat
open Go Go.Fw Go.RowKit
set_option linter.unusedVariables false
set_option linter.unusedSimpArgs false

def bareR (x : Raw) : Raw := (x.1, x.2.1, [])
def bareL (l : List Raw) : List Raw := l.map bareR
section
variable {l : List Raw} {p q b : List UInt8} {x y : Raw}
theorem bare_find (l : List Raw) (p : List UInt8) : (bareL l).find? (fun x => decide (x.1 = p)) = (l.find? (fun x => decide (x.1 = p))).map bareR := by
 unfold bareL
 rw [List.find?_map]; rfl
theorem bare_at (l : List Raw) (p : List UInt8) : atR (bareL l) p = atR l p := by
 unfold atR bareL
 rw [List.findIdx?_map]; rfl
theorem bare_findF (l : List Raw) : ∀ (r pre : NP) (f : Raw), findF (bareL l) pre r (bareR f) = (bareR (findF l pre r f).1, (findF l pre r f).2)
 | [], pre, f => rfl
 | n :: r, pre, f => by
  unfold findF
  rw [bare_find]
  show (if f.2.1 = true then _ else _) = _
  split
  ·cases h : l.find? (fun x => decide (x.1 = joinS (pre ++ [n]))) with
   | none => rfl
   | some x => exact bare_findF l r (pre ++ [n]) x
  ·rfl
theorem bare_findL (l : List Raw) (p : List UInt8) : findL (bareL l) p = (bareR (findL l p).1, (findL l p).2) := by
 unfold findL
 split
 ·exact bare_findF l (splitN p) [] ([], true, [])
 ·rfl
theorem bare_home (l : List Raw) (p : List UInt8) (root : Int) : homeL (bareL l) p root = homeL l p root := by
 unfold homeL
 rw [bare_findL]; rfl
theorem bare_len (l : List Raw) : (bareL l).length = l.length := by simp [bareL]
theorem bare_with (x : Raw) : ∀ l : List Raw, withR (bareL l) (bareR x) = bareL (withR l x)
 | [] => rfl
 | y :: l => by
  have ih := bare_with x l
  show withR (bareR y :: bareL l) (bareR x) = bareL (withR (y :: l) x)
  rw [withR_cons, withR_cons, ih]
  show (if compareP y.1 x.1 < 0 then _ else _) = _
  split <;> rfl
theorem bare_erase (l : List Raw) (i : Nat) : (bareL l).eraseIdx i = bareL (l.eraseIdx i) := by
 exact (map_eraseIdx' bareR l i).symm
theorem bare_mkdir (l : List Raw) (p : List UInt8) : mkdirL (bareL l) p = (bareL (mkdirL l p).1, (mkdirL l p).2) := by
 unfold mkdirL
 rw [bare_home, bare_at, bare_len]
 split
 ·split
  ·rfl
  ·split
   ·rfl
   ·rw [show ((p, true, []) : Raw) = bareR (p, true, []) from rfl, bare_with]; rfl
 ·rfl
theorem bare_put (l : List Raw) (p b : List UInt8) (hb : b.length ≤ 65536) : putL (bareL l) p [] = (bareL (putL l p b).1, (putL l p b).2) := by
 have h1 : ¬ 65536 < ([] : List UInt8).length := by simp
 have h2 : ¬ 65536 < b.length := by omega
 have h3 : ∀ k : List Raw, withR (bareL k) (p, false, []) = bareL (withR k (p, false, b)) := fun k => by
  rw [show ((p, false, []) : Raw) = bareR (p, false, b) from rfl, bare_with]
 unfold putL
 rw [bare_home, bare_find, bare_at, bare_len]
 by_cases h0 : homeL l p 16 = 0
 ·rw [if_pos h0, if_pos h0]
  cases hf : l.find? (fun x => decide (x.1 = p)) with
  | none =>
   simp only [Option.map_none]
   rw [if_neg h1, if_neg h2]
   split
   ·rfl
   ·rw [h3]
  | some x =>
   simp only [Option.map_some]
   rw [if_neg h1, if_neg h2]
   show (if x.2.1 = true then _ else _) = _
   split
   ·rfl
   ·rw [bare_erase, h3]
 ·rw [if_neg h0, if_neg h0]
theorem bare_busy (l : List Raw) (p : List UInt8) : busyL (bareL l) p = busyL l p := by
 unfold busyL bareL
 rw [List.any_map]; rfl
theorem bare_remove (l : List Raw) (p : List UInt8) : removeL (bareL l) p = (bareL (removeL l p).1, (removeL l p).2) := by
 unfold removeL
 rw [bare_findL, bare_busy, bare_at, bare_erase]
 split
 ·split
  ·rfl
  ·split <;> rfl
 ·rfl
theorem bare_mv (p q : List UInt8) (f : Raw) : mvN p q (bareR f) = bareR (mvN p q f) := by
 unfold mvN
 show (if underP f.1 p = true then _ else _) = _
 split <;> rfl
theorem bare_mov (p q : List UInt8) (l : List Raw) : movL p q (bareL l) = bareL (movL p q l) := by
 have key : ∀ (l A : List Raw), (bareL l).foldl (fun a f => withR a (mvN p q f)) (bareL A) = bareL (l.foldl (fun a f => withR a (mvN p q f)) A) := by
  intro l
  induction l with
  | nil => intro A; rfl
  | cons f l ih =>
   intro A
   show (bareL l).foldl _ (withR (bareL A) (mvN p q (bareR f))) = _
   rw [bare_mv, bare_with]
   exact ih _
 exact key l []
theorem bare_bad (p q : List UInt8) (l : List Raw) : (bareL l).any (badN p q) = l.any (badN p q) := by
 unfold bareL
 rw [List.any_map]
 congr 1
 funext f
 show badN p q (bareR f) = badN p q f
 unfold badN
 rw [bare_mv]; rfl
theorem bare_rename (l : List Raw) (p q : List UInt8) : renameL (bareL l) p q = (bareL (renameL l p q).1, (renameL l p q).2) := by
 unfold renameL
 rw [bare_findL, bare_home, bare_at, bare_bad, bare_mov]
 repeat' (first | rfl | split)
theorem bare_names (l : List Raw) (p : List UInt8) : namesL (bareL l) p = namesL l p := by
 unfold namesL bareL
 rw [List.filter_map, List.map_map]; rfl
theorem bare_list (l : List Raw) (p : List UInt8) : listL (bareL l) p = listL l p := by
 unfold listL
 rw [bare_findL, bare_names]; rfl

/-- A file's bytes; nothing, where there is no file. -/
def fileD (l : List Raw) (p : List UInt8) : Option (List UInt8) := match l.find? (fun x => decide (x.1 = p)) with
 | some x => if x.2.1 = true then none else some x.2.2
 | none => none
/-- A file has other bytes. -/
def setD (l : List Raw) (p b : List UInt8) : List Raw := l.map fun x => if x.1 = p then (x.1, x.2.1, b) else x
def usedL (l : List Raw) : Nat := (l.map fun x => x.2.2.length).sum
theorem bare_set (l : List Raw) (p b : List UInt8) : bareL (setD l p b) = bareL l := by
 unfold bareL setD
 rw [List.map_map]
 apply List.map_congr_left
 intro x _
 show bareR (if x.1 = p then _ else _) = _
 split <;> rfl
end
end Go.Proofs.YtigfbpbnohkokaaGreat

namespace Go.Proofs.YtigfbpbnohkokaaGreat
open Go Go.Fw Go.RowKit
set_option linter.unusedVariables false
set_option linter.unusedSimpArgs false

/-- What a client asks for. -/
structure OpS where
 k : Int
 p : List UInt8
 q : List UInt8
 h : Int
 a : Int
 n : Int
 w : Bool
 c : Bool
 d : List UInt8
/-- What it is answered. -/
structure RsS where
 e : Int
 h : Int
 n : Int
 d : List UInt8
 l : NP
deriving DecidableEq
def badS (e : Int) : RsS := ⟨e, 0, 0, [], []⟩
/-- Who has what open. -/
abbrev HF := Int → Int → Option (List UInt8 × Bool)
def lowH (hf : HF) (who : Int) : Option Nat := (List.range 16).find? fun i => (hf who ((i : Int) + 1)).isNone
def setH (hf : HF) (who n : Int) (v : Option (List UInt8 × Bool)) : HF := fun a b => if a = who ∧ b = n then v else hf a b
def openB (hf : HF) (p : List UInt8) : Bool := (List.range 8).any fun a => (List.range 16).any fun i => match hf (a : Int) ((i : Int) + 1) with
 | some v => decide (v.1 = p)
 | none => false
def movP (x y q : List UInt8) : List UInt8 := if underP q x = true then y ++ q.drop x.length else q
def movH (hf : HF) (x y : List UInt8) : HF := fun a b => (hf a b).map fun v => (movP x y v.1, v.2)

def sizedB (b : List UInt8) (n : Nat) : List UInt8 := b.take n ++ List.replicate (n - b.length) 0
def overB (b d : List UInt8) (a : Nat) : List UInt8 := b.take a ++ d ++ b.drop (a + d.length)
def writeB (b d : List UInt8) (a : Nat) : List UInt8 := overB (sizedB b (max b.length (a + d.length))) d a
def fileB (l : List Raw) (p : List UInt8) : List UInt8 := (fileD l p).getD []

abbrev St3 := RsS × List Raw × HF
def openS (l : List Raw) (hf : HF) (who : Int) (o : OpS) : St3 :=
 match lowH hf who with
 | none => (badS 7, l, hf)
 | some i =>
  if (cleanP o.p).2 = 0 then
   (if (findL l (cleanP o.p).1).2 = 9 ∧ o.c = true then
    (if (putL l (cleanP o.p).1 []).2 = 0 then (⟨0, (i : Int) + 1, 0, [], []⟩, (putL l (cleanP o.p).1 []).1, setH hf who ((i : Int) + 1) (some ((cleanP o.p).1, o.w)))
     else (badS (putL l (cleanP o.p).1 []).2, l, hf))
    else if (findL l (cleanP o.p).1).2 = 0 then
    (if (findL l (cleanP o.p).1).1.2.1 = true then (badS 16, l, hf) else (⟨0, (i : Int) + 1, 0, [], []⟩, l, setH hf who ((i : Int) + 1) (some ((cleanP o.p).1, o.w))))
    else (badS (findL l (cleanP o.p).1).2, l, hf))
  else (badS (cleanP o.p).2, l, hf)
def readS (l : List Raw) (p : List UInt8) (o : OpS) : RsS :=
 if o.a < 0 ∨ o.n < 0 then badS 2 else ⟨0, 0, 0, ((fileB l p).drop o.a.toNat).take o.n.toNat, []⟩
def sizeS (l : List Raw) (p : List UInt8) (b : List UInt8) (r : RsS) : RsS × List Raw :=
 if 262144 + (fileB l p).length < usedL l + b.length then (badS 7, l) else (r, setD l p b)
def writeS (l : List Raw) (p : List UInt8) (w : Bool) (o : OpS) : RsS × List Raw :=
 if w = false ∨ o.a < 0 then (badS 2, l) else if o.d = [] then (badS 0, l) else if 65536 < o.d.length ∨ 65536 - (o.d.length : Int) < o.a then (badS 3, l) else
  sizeS l p (writeB (fileB l p) o.d o.a.toNat) ⟨0, 0, o.d.length, [], []⟩
def truncS (l : List Raw) (p : List UInt8) (w : Bool) (o : OpS) : RsS × List Raw :=
 if w = false ∨ o.n < 0 then (badS 2, l) else if 65536 < o.n then (badS 3, l) else sizeS l p (sizedB (fileB l p) o.n.toNat) (badS 0)
def handleS (l : List Raw) (hf : HF) (who : Int) (o : OpS) : St3 :=
 match hf who o.h with
 | none => (badS 19, l, hf)
 | some v => if o.k = 2 then (readS l v.1 o, l, hf) else if o.k = 3 then ((writeS l v.1 v.2 o).1, (writeS l v.1 v.2 o).2, hf) else
   if o.k = 4 then ((truncS l v.1 v.2 o).1, (truncS l v.1 v.2 o).2, hf) else (badS 0, l, setH hf who o.h none)
def namedS (l : List Raw) (hf : HF) (p : List UInt8) (o : OpS) : St3 :=
 if o.k = 6 then (badS (mkdirL l p).2, (mkdirL l p).1, hf)
 else if o.k = 7 then (if (removeL l p).2 = 0 then (if openB hf p = true then (badS 18, l, hf) else (badS 0, (removeL l p).1, hf)) else (badS (removeL l p).2, l, hf))
 else if o.k = 8 then (if (cleanP o.q).2 = 0 then (if (renameL l p (cleanP o.q).1).2 = 0 then (badS 0, (renameL l p (cleanP o.q).1).1, movH hf p (cleanP o.q).1) else (badS (renameL l p (cleanP o.q).1).2, l, hf)) else (badS (cleanP o.q).2, l, hf))
 else (⟨(listL l p).2, 0, 0, [], (listL l p).1⟩, l, hf)
def doS (l : List Raw) (hf : HF) (who : Int) (o : OpS) : St3 :=
 if who < 0 ∨ 8 ≤ who ∨ o.k < 1 ∨ 9 < o.k then (badS 2, l, hf)
 else if o.k = 1 then openS l hf who o
 else if o.k ≤ 5 then handleS l hf who o
 else if (cleanP o.p).2 = 0 then namedS l hf (cleanP o.p).1 o else (badS (cleanP o.p).2, l, hf)
end Go.Proofs.YtigfbpbnohkokaaGreat

namespace Go.Fw
open Go Go.RowKit Go.MapKept
set_option linter.unusedVariables false
set_option linter.unusedSimpArgs false

section
variable {κ : Type} [DecidableEq κ] {enc : κ → Value}
/-- How far a loop over a map has come: these keys were handed out; the last entry that was handed out. -/
def ItO (enc : κ → Value) (o ito : Obj) (r : Nat) (g : κ → Option Value) (vis : List κ) : Prop :=
 ∃ (es : Array MapEntry) (clock : Nat) (seen : Array Nat) (l : List (κ × Value)), o = .map es clock ∧ Ents enc es.toList l ∧ (l.map (·.1)).Nodup ∧ (∀ k v, g k = some v ↔ (k, v) ∈ l) ∧ Stamped es clock ∧ ito = .mapIter (some r) clock seen clock ∧
  ∀ (i : Nat) (e : MapEntry) (p : κ × Value), es.toList[i]? = some e → l[i]? = some p → (seen.contains e.born = true ↔ p.1 ∈ vis)
def LastO (o ito : Obj) (r : Nat) (key v : Value) : Prop :=
 ∃ (es : Array MapEntry) (clock : Nat) (seen : Array Nat) (e : MapEntry), o = .map es clock ∧ Stamped es clock ∧ ito = .mapIter (some r) clock (seen.push e.born) clock ∧ e ∈ es.toList ∧ e.key = key ∧ e.val = v

omit [DecidableEq κ] in
theorem MapF.iter {o : Obj} {g : κ → Option Value} (h : MapF enc o g) (r : Nat) : ∃ es clock, o = .map es clock ∧ ItO enc o (.mapIter (some r) clock #[] clock) r g [] := by
 obtain ⟨es, clock, l, rfl, h1, h2, h3, h4⟩ := h
 exact ⟨es, clock, rfl, es, clock, #[], l, rfl, h1, h2, h3, h4, rfl, fun i e p _ _ => by simp⟩

omit [DecidableEq κ] in
theorem ents_atM {es : List MapEntry} {l : List (κ × Value)} (h : Ents enc es l) {i : Nat} {e : MapEntry} (he : es[i]? = some e) : ∃ p, l[i]? = some p ∧ e.key = enc p.1 ∧ e.val = p.2 := by
 have h1 := congrArg (fun z : List (Value × Value) => z[i]?) h
 simp only [List.getElem?_map, he, Option.map_some] at h1
 cases hp : l[i]? with
 | none => rw [hp] at h1; cases h1
 | some p =>
  rw [hp] at h1
  simp only [Option.map_some, Option.some.injEq, Prod.mk.injEq] at h1
  exact ⟨p, rfl, h1.1, h1.2⟩
omit [DecidableEq κ] in
theorem ents_at' {es : List MapEntry} {l : List (κ × Value)} (h : Ents enc es l) {i : Nat} {p : κ × Value} (hp : l[i]? = some p) : ∃ e, es[i]? = some e ∧ e.key = enc p.1 ∧ e.val = p.2 := by
 have h1 := congrArg (fun z : List (Value × Value) => z[i]?) h
 simp only [List.getElem?_map, hp, Option.map_some] at h1
 cases he : es[i]? with
 | none => rw [he] at h1; cases h1
 | some e =>
  rw [he] at h1
  simp only [Option.map_some, Option.some.injEq, Prod.mk.injEq] at h1
  exact ⟨e, rfl, h1.1, h1.2⟩

omit [DecidableEq κ] in
theorem run_nextM {P : Program} {w : World} {ty : TypeId} {it r : Nat} {o ito : Obj} {g : κ → Option Value} {vis : List κ} (hi : w.heap[it]? = some ito) (hb : w.heap[r]? = some o) (hI : ItO enc o ito r g vis) :
  ((∀ k, g k ≠ none → k ∈ vis) ∧ (Instr.next (.pointer (some ⟨it, 0, none⟩)) false ty).run P w = .ok (.tuple #[.bool false]) w) ∨
  ∃ k v w1 ito', g k = some v ∧ k ∉ vis ∧ (w1 = w ∨ w1 = w.drew) ∧ ItO enc o ito' r g (k :: vis) ∧ LastO o ito' r (enc k) v ∧ (Instr.next (.pointer (some ⟨it, 0, none⟩)) false ty).run P w = .ok (.tuple #[.bool true, enc k, v]) (w1.putObj it ito') := by
 obtain ⟨es, clock, seen, l, rfl, he, hn, hg, hst, rfl, hs⟩ := hI
 have hold : ∀ x ∈ es.toList, x.born < clock := hst.1
 simp only [Instr.next, getObj, Sem.run_bind, Sem.run, hi, hb, Result.andThen, next_test_false seen es clock clock hold (Nat.le_refl _), Bool.false_eq_true, if_false]
 have hmemL : ∀ x, x ∈ (Array.filter (fun e => !seen.contains e.born) es).toList ↔ x ∈ es.toList ∧ seen.contains x.born = false := fun x => by simp
 have hmem : ∀ x ∈ (Array.filter (fun e => !seen.contains e.born) es).toList, x.born < clock := fun x hx => hold x ((hmemL x).1 hx).1
 generalize Array.filter (fun e => !seen.contains e.born) es = L at hmem hmemL ⊢
 have e1 : L.filter (fun x => decide (x.born < clock)) = L := Array.filter_eq_self.2 (fun x hx => by simpa using hmem x (by simpa using hx))
 have e2 : L.filter (fun x => decide (x.born ≥ clock)) = #[] := by
  rw [Array.filter_eq_empty_iff]
  intro x hx
  have := hmem x (by simpa using hx)
  simp
  omega
 simp only [e1, e2, Array.append_empty]
 by_cases h0 : L.size = 0
 ·left
  have hL : L = #[] := Array.eq_empty_of_size_eq_zero h0
  subst hL
  refine ⟨fun k hk => ?_, by simp [choose, Sem.run, Question.forced]⟩
  cases hv : g k with
  | none => exact absurd hv hk
  | some v =>
   obtain ⟨i, hil⟩ := List.mem_iff_getElem?.1 ((hg k v).1 hv)
   obtain ⟨e, hei, _, _⟩ := ents_at' he hil
   refine (hs i e (k, v) hei hil).1 ?_
   cases hc : seen.contains e.born with
   | true => rfl
   | false => have := (hmemL e).2 ⟨List.mem_of_getElem? hei, hc⟩; simp at this
 ·right
  have hne : L.isEmpty = false := by simp [Array.isEmpty, h0]
  simp only [hne, Bool.false_eq_true, if_false, Array.empty_append, Array.size_map]
  have hch : ∃ (j : Nat) (w1 : World), j < L.size ∧ (w1 = w ∨ w1 = w.drew) ∧ (choose (Question.mapNext L.size)).run P w = .ok j w1 := by
   by_cases hf : L.size ≤ 1
   ·exact ⟨0, w, by omega, .inl rfl, by simp [choose, Sem.run, Question.forced, hf]⟩
   ·exact ⟨_, w.drew, Nat.mod_lt _ (by omega), .inr rfl, by
     simp only [choose, Sem.run, Question.forced, decide_eq_true_eq, hf, if_false, Question.cut]
     rfl⟩
  obtain ⟨j, w1, hj, hw1, hrun⟩ := hch
  have hLj : L[j] ∈ es.toList ∧ seen.contains L[j].born = false := (hmemL _).1 (by simp)
  obtain ⟨i, hei⟩ := List.mem_iff_getElem?.1 hLj.1
  obtain ⟨⟨k, v⟩, hil, hk, hv⟩ := ents_atM he hei
  simp only at hk hv
  have hset : (setObj it (.mapIter (some r) clock (seen.push L[j].born) clock)).run P w1 = .ok () (w1.putObj it (.mapIter (some r) clock (seen.push L[j].born) clock)) := by
   have hi1 : w1.heap[it]? = some (.mapIter (some r) clock seen clock) := by rcases hw1 with rfl | rfl <;> exact hi
   simp only [setObj, Sem.run]
   rw [hi1]
   rfl
  refine ⟨k, v, w1, .mapIter (some r) clock (seen.push L[j].born) clock, (hg k v).2 (List.mem_of_getElem? hil), ?_, hw1, ?_, ⟨es, clock, seen, L[j], rfl, hst, rfl, hLj.1, hk, hv⟩, ?_⟩
  ·intro hkv
   have := (hs i L[j] (k, v) hei hil).2 hkv
   rw [hLj.2] at this; cases this
  ·refine ⟨es, clock, seen.push L[j].born, l, rfl, he, hn, hg, hst, rfl, fun i' e' p' hi' hp' => ?_⟩
   have key : e'.born = L[j].born ↔ i' = i := by
    constructor
    ·intro h
     have hnd := hst.2.1
     have a1 : (es.toList.map (·.born))[i']? = some L[j].born := by rw [List.getElem?_map, hi', ← h]; rfl
     have a2 : (es.toList.map (·.born))[i]? = some L[j].born := by rw [List.getElem?_map, hei]; rfl
     obtain ⟨b1, b2⟩ := List.getElem?_eq_some_iff.1 a1
     obtain ⟨c1, c2⟩ := List.getElem?_eq_some_iff.1 a2
     exact (List.getElem_inj hnd).1 (b2.trans c2.symm)
    ·rintro rfl
     rw [hei] at hi'; cases hi'; rfl
   have hkey : p'.1 = k ↔ i' = i := by
    constructor
    ·intro h
     have a1 : (l.map (·.1))[i']? = some k := by rw [List.getElem?_map, hp', ← h]; rfl
     have a2 : (l.map (·.1))[i]? = some k := by rw [List.getElem?_map, hil]; rfl
     obtain ⟨b1, b2⟩ := List.getElem?_eq_some_iff.1 a1
     obtain ⟨c1, c2⟩ := List.getElem?_eq_some_iff.1 a2
     exact (List.getElem_inj hn).1 (b2.trans c2.symm)
    ·rintro rfl
     rw [hil] at hp'; cases hp'; rfl
   have hold' := hs i' e' p' hi' hp'
   rw [List.mem_cons, hkey, ← hold']
   simp only [Array.contains_push, Bool.or_eq_true, beq_iff_eq]
   rw [← key]
   exact ⟨fun h => h.elim (fun h => .inr h) (fun h => .inl (by first | exact h | exact h.symm)), fun h => h.elim (fun h => .inr (by first | exact h | exact h.symm)) (fun h => .inl h)⟩
  ·simp only [hrun, Array.getElem?_map, Array.getElem?_eq_getElem hj, Option.map_some, Sem.run_bind, hset, Result.andThen]
   rw [hk, hv]
   rfl

theorem run_entryM {P : Program} {w : World} {it r : Nat} {o ito : Obj} {key v : Value} (hi : w.heap[it]? = some ito) (hb : w.heap[r]? = some o) (hL : LastO o ito r key v) :
  (Instr.entry (.pointer (some ⟨it, 0, none⟩))).run P w = .ok (.tuple #[key, v]) w := by
 obtain ⟨es, clock, seen, e, rfl, hst, rfl, he, rfl, rfl⟩ := hL
 have hf : es.find? (·.born == e.born) = some e := by rw [← Array.find?_toList]; exact find_born e es.toList hst.2.1 he
 simp only [Instr.entry, getObj, Sem.run_bind, Sem.run, hi, hb, Result.andThen, Array.back?_push, bne_self_eq_false, Bool.false_eq_true, if_false, hf]
 rfl
end

section
variable {P : Program} {n : Nat} {ops : Array Oper} {B : Array Nat} {dr : Bool} {K : KT} {s : List (Nat × Bool)} {F : Env} {ds : List Deferred} {T : List (Nat × (World → Prop))} {w : World} {i : Nat}
 {d : Option Tmp} {ty : TypeId} {ps : String} {af : Array Edge} {gd : Option (Nat × Bool)} {t k e : TypeId} {x y : Operand} {κ : Type} [DecidableEq κ] {enc : κ → Value}
omit [DecidableEq κ] in
theorem x_rngM {r : Nat} {o : Obj} {g : κ → Option Value} (ho : ops[i]? = some ⟨d, .range t x, ty, ps, af, gd⟩) (hg : guardV ops F gd = some true) (hd : dstOK n d = true) (hu : P.underlying t = some (.map k e)) (hx : ev? F x = some (.map (some r))) (hb : w.heap[r]? = some o) (hm : MapF enc o g)
  (h : ∀ b w1 ito, b = w.heap.size → w1 = w.alloc ito → ItO enc o ito r g [] → pend B i T w1 ∧ Ex P n ops B dr K s (putE F d (.pointer (some ⟨b, 0, none⟩))) ds T w1) : Ex P n ops B dr K ((i, true) :: s) F ds T w := by
 obtain ⟨es, clock, rfl, hI⟩ := hm.iter r
 exact Ex.mov_ ho hg hd (fun v w' => v = .pointer (some ⟨w.heap.size, 0, none⟩) ∧ w' = w.alloc (.mapIter (some r) clock #[] clock)) (fun at_ hk => by
  unfold OpR
  simp only [execOp, hk.eval hx, Sem.run_bind, run_range_map w t k e r es clock hu hb, Result.andThen_ok, Sem.run_pure, nextR]
  first | exact ⟨rfl, rfl⟩ | exact ⟨trivial, rfl⟩ | trivial) (by rintro v w1 ⟨rfl, rfl⟩; exact h _ _ _ rfl rfl hI)
omit [DecidableEq κ] in
theorem x_nxtM {it r : Nat} {o ito : Obj} {g : κ → Option Value} {vis : List κ} (ho : ops[i]? = some ⟨d, .next x false, ty, ps, af, gd⟩) (hg : guardV ops F gd = some true) (hd : dstOK n d = true) (hx : ev? F x = some (.pointer (some ⟨it, 0, none⟩))) (hi : w.heap[it]? = some ito) (hb : w.heap[r]? = some o) (hI : ItO enc o ito r g vis)
  (h : ∀ vs w1, ((∀ k, g k ≠ none → k ∈ vis) ∧ vs = #[.bool false] ∧ w1 = w) ∨ (∃ k v w0 ito', g k = some v ∧ k ∉ vis ∧ (w0 = w ∨ w0 = w.drew) ∧ ItO enc o ito' r g (k :: vis) ∧ LastO o ito' r (enc k) v ∧ vs = #[.bool true, enc k, v] ∧ w1 = w0.putObj it ito') →
   pend B i T w1 ∧ Ex P n ops B dr K s (putE F d (.tuple vs)) ds T w1) : Ex P n ops B dr K ((i, true) :: s) F ds T w := by
 refine Ex.mov_ ho hg hd (fun v w1 => ∃ vs, v = .tuple vs ∧ (((∀ k, g k ≠ none → k ∈ vis) ∧ vs = #[.bool false] ∧ w1 = w) ∨ (∃ k v w0 ito', g k = some v ∧ k ∉ vis ∧ (w0 = w ∨ w0 = w.drew) ∧ ItO enc o ito' r g (k :: vis) ∧ LastO o ito' r (enc k) v ∧ vs = #[.bool true, enc k, v] ∧ w1 = w0.putObj it ito'))) (fun at_ hk => ?_) (by rintro v w1 ⟨vs, rfl, hh⟩; exact h vs w1 hh)
 unfold OpR
 rcases run_nextM (P := P) (ty := ty) hi hb hI with ⟨h1, h2⟩ | ⟨k, v, w0, ito', h1, h2, h3, h4, h5, h6⟩
 ·simp only [execOp, hk.eval hx, Sem.run_bind, h2, Result.andThen_ok, Sem.run_pure, nextR]
  exact ⟨_, rfl, .inl ⟨h1, by first | rfl | trivial, by first | rfl | trivial⟩⟩
 ·simp only [execOp, hk.eval hx, Sem.run_bind, h6, Result.andThen_ok, Sem.run_pure, nextR]
  exact ⟨_, rfl, .inr ⟨k, v, w0, ito', h1, h2, h3, h4, h5, rfl, rfl⟩⟩
theorem x_ent {it r : Nat} {o ito : Obj} {key v : Value} (ho : ops[i]? = some ⟨d, .entry x, ty, ps, af, gd⟩) (hg : guardV ops F gd = some true) (hd : dstOK n d = true) (hx : ev? F x = some (.pointer (some ⟨it, 0, none⟩))) (hi : w.heap[it]? = some ito) (hb : w.heap[r]? = some o) (hL : LastO o ito r key v)
  (hT : pend B i T w) (h : Ex P n ops B dr K s (putE F d (.tuple #[key, v])) ds T w) : Ex P n ops B dr K ((i, true) :: s) F ds T w :=
 Ex.mov_ ho hg hd (fun v' w' => v' = .tuple #[key, v] ∧ w' = w) (fun at_ hk => by
  unfold OpR
  simp only [execOp, hk.eval hx, Sem.run_bind, run_entryM hi hb hL, Result.andThen_ok, Sem.run_pure, nextR]
  first | exact ⟨rfl, rfl⟩ | exact ⟨trivial, rfl⟩ | trivial) (by rintro v' w' ⟨rfl, rfl⟩; exact ⟨hT, h⟩)
end
end Go.Fw

namespace Go.Fw
open Go Go.RowKit
set_option linter.unusedVariables false
set_option linter.unusedSimpArgs false

section
variable {P : Program} {n : Nat} {ops : Array Oper} {B : Array Nat} {dr : Bool} {K : KT} {s : List (Nat × Bool)} {F : Env} {ds : List Deferred} {T : List (Nat × (World → Prop))} {w : World} {i : Nat}
 {d : Option Tmp} {ty : TypeId} {ps : String} {af : Array Edge} {g : Option (Nat × Bool)} {x y : Operand} {t t2 e m : TypeId}

/-- An array behind a pointer, as a slice. -/
theorem x_slArr {len b off : Nat} (ho : ops[i]? = some ⟨d, .slice t x none none none, ty, ps, af, g⟩) (hg : guardV ops F g = some true) (hd : dstOK n d = true)
  (ha : P.underlying t = some (.array len e)) (hm : szOf P e = some m) (hx : ev? F x = some (.pointer (some ⟨b, off, none⟩)))
  (h : Ex P n ops B dr K s (putE F d (.slice (some ⟨b, off, none⟩) len len)) ds T w) : Ex P n ops B dr K ((i, false) :: s) F ds T w :=
 Ex.pure_ ho hg hd _ (fun at_ hk w' => by
  have hv : (if len = 0 then (⟨b, off, none⟩ : Addr) else (⟨b, off, none⟩ : Addr).add (0 * m)) = ⟨b, off, none⟩ := by
   split
   ·rfl
   ·simp [Addr.add]
  simp only [execOp, Option.map_none, hk.eval hx, Instr.sliceAt, Sem.run_bind, run_underlying ha, Result.andThen_ok, Instr.sliceBounds, Instr.sureAddr, Sem.run_pure, run_sizeOf' hm, hv, Nat.sub_zero]) h

theorem x_sllh {lo hi : Operand} {a : Option Addr} {len cap : Nat} {k1 k2 : IntKind} {z1 z2 : Int} (j1 j2 : Nat) (ho : ops[i]? = some ⟨d, .slice t x (some lo) (some hi) none, ty, ps, af, g⟩) (hg : guardV ops F g = some true) (hd : dstOK n d = true)
  (hu : P.underlying t = some (.slice e)) (hs : szOf P e = some m) (hx : ev? F x = some (.slice a len cap)) (hl : ev? F lo = some (.int k1 z1)) (hh : ev? F hi = some (.int k2 z2)) (hj1 : z1 = (j1 : Int)) (hj2 : z2 = (j2 : Int)) (hle : j1 ≤ j2) (hle2 : j2 ≤ cap)
  (h : Ex P n ops B dr K s (putE F d (.slice (if cap = j1 then a else a.map (·.add (j1 * m))) (j2 - j1) (cap - j1))) ds T w) : Ex P n ops B dr K ((i, false) :: s) F ds T w :=
 Ex.pure_ ho hg hd _ (fun at_ hk w' => by
  subst hj1 hj2
  have he := elem_of hu
  have hu' : P.underlying t = some (.slice (P.elem t)) := by rw [he]; exact hu
  simp only [execOp, Option.map_none, Option.map_some, hk.eval hx, hk.eval hl, hk.eval hh, Sem.run_bind, run_sliceAt_slice (w := w') t _ _ _ _ hu', run_slice_lh (w := w') t a len cap hu' k1 k2 (j1 : Int) (j2 : Int) (by omega) (by omega) (by omega), he, run_sizeOf' hs, Result.andThen_ok, Int.toNat_natCast, Sem.run_pure, sliced]) h

theorem run_equal_fn {a b0 c0 : _} {fn : Fn} {fi ca : Array Value} {w : World} (hu : P.underlying t = some (.func a b0 c0)) : (Op.equal t (.func fn fi ca) .nilFunc).run P w = .ok false w := by
 unfold Op.equal Op.maxDepth Op.equalIn
 rw [Sem.run_bind, run_underlying hu]
 rfl
theorem run_equal_fn0 {a b0 c0 : _} {w : World} (hu : P.underlying t = some (.func a b0 c0)) : (Op.equal t .nilFunc .nilFunc).run P w = .ok true w := by
 unfold Op.equal Op.maxDepth Op.equalIn
 rw [Sem.run_bind, run_underlying hu]
 rfl
/-- Is this function none? -/
def nilF : Value → Option Bool | .nilFunc => some true | .func _ _ _ => some false | _ => none
theorem x_eqfn {a b0 c0 : _} {v : Value} (r : Bool) (ho : ops[i]? = some ⟨d, .binOp .eql t x y t2, ty, ps, af, g⟩) (hg : guardV ops F g = some true) (hd : dstOK n d = true) (hu : P.underlying t = some (.func a b0 c0)) (hx : ev? F x = some v) (hy : ev? F y = some .nilFunc) (hr : nilF v = some r)
  (h : Ex P n ops B dr K s (putE F d (.bool r)) ds T w) : Ex P n ops B dr K ((i, false) :: s) F ds T w :=
 Ex.pure_ ho hg hd _ (fun at_ hk w' => by
  simp only [execOp, hk.eval hx, hk.eval hy]
  cases v <;> simp only [nilF, Option.some.injEq, reduceCtorEq] at hr <;> subst hr
  ·rw [Sem.run_bind, (eq_of_equal (x := x) (y := y) (by simp) (run_equal_fn hu)).1]; rfl
  ·rw [Sem.run_bind, (eq_of_equal (x := x) (y := y) (by simp) (run_equal_fn0 hu)).1]; rfl) h
theorem x_nefn {a b0 c0 : _} {v : Value} (r : Bool) (ho : ops[i]? = some ⟨d, .binOp .neq t x y t2, ty, ps, af, g⟩) (hg : guardV ops F g = some true) (hd : dstOK n d = true) (hu : P.underlying t = some (.func a b0 c0)) (hx : ev? F x = some v) (hy : ev? F y = some .nilFunc) (hr : (nilF v).map (!·) = some r)
  (h : Ex P n ops B dr K s (putE F d (.bool r)) ds T w) : Ex P n ops B dr K ((i, false) :: s) F ds T w :=
 Ex.pure_ ho hg hd _ (fun at_ hk w' => by
  simp only [execOp, hk.eval hx, hk.eval hy]
  cases v <;> simp only [nilF, Option.map_some, Option.map_none, Option.some.injEq, reduceCtorEq] at hr <;> subst hr
  ·rw [Sem.run_bind, (eq_of_equal (x := x) (y := y) (by simp) (run_equal_fn hu)).2]; rfl
  ·rw [Sem.run_bind, (eq_of_equal (x := x) (y := y) (by simp) (run_equal_fn0 hu)).2]; rfl) h

/-- Is there a value behind this interface? -/
def nilI : Value → Option Bool | .nilIface => some true | .iface _ _ => some false | _ => none
theorem run_equal_if {a : _} {t0 : TypeId} {v0 : Value} {w : World} (hu : P.underlying t = some (.interface a)) : (Op.equal t (.iface t0 v0) .nilIface).run P w = .ok false w := by
 unfold Op.equal Op.maxDepth Op.equalIn
 rw [Sem.run_bind, run_underlying hu]
 rfl
theorem run_equal_if0 {a : _} {w : World} (hu : P.underlying t = some (.interface a)) : (Op.equal t .nilIface .nilIface).run P w = .ok true w := by
 unfold Op.equal Op.maxDepth Op.equalIn
 rw [Sem.run_bind, run_underlying hu]
 rfl
theorem x_eqif {a : _} {v c : Value} (r : Bool) (ho : ops[i]? = some ⟨d, .binOp .eql t x (.const c) t2, ty, ps, af, g⟩) (hg : guardV ops F g = some true) (hd : dstOK n d = true) (hu : P.underlying t = some (.interface a)) (hx : ev? F x = some v) (hc : c = .nilIface) (hr : nilI v = some r)
  (h : Ex P n ops B dr K s (putE F d (.bool r)) ds T w) : Ex P n ops B dr K ((i, false) :: s) F ds T w :=
 Ex.pure_ ho hg hd _ (fun at_ hk w' => by
  subst hc
  have hy : at_.eval (.const .nilIface) = .nilIface := rfl
  simp only [execOp, hk.eval hx, hy]
  cases v <;> simp only [nilI, Option.some.injEq, reduceCtorEq] at hr <;> subst hr
  ·rename_i t0 v0
   have e1 : eqGuard .eql t x (.const .nilIface) (.iface t0 v0) .nilIface = pure () := rfl
   rw [e1]
   simp only [Sem.run_bind, Sem.run_pure, Result.andThen_ok, binOp, run_equal_if hu]
  ·have e1 : eqGuard .eql t x (.const .nilIface) .nilIface .nilIface = pure () := by cases x <;> rfl
   rw [e1]
   simp only [Sem.run_bind, Sem.run_pure, Result.andThen_ok, binOp, run_equal_if0 hu]) h

/-- How a method behind a pointer is found. -/
def methOK (P : Program) (T : TypeId) (name : String) (f : FuncId) : Bool := match P.info? T with
 | some i => match i.methods.find? (·.name == name) with
  | some m => (match m.func with | some (f', p) => f' == f && p | none => false) && m.path.toList.isEmpty && (match P.underlying T with | some (.pointer _) => true | _ => false)
  | none => false
 | none => false
theorem run_method {Ty : TypeId} {name : String} {f : FuncId} {v : Value} {k : Nat} (h : methOK P Ty name f = true) : (method (k + 1) Ty v name).run P w = .ok (f, v) w := by
 unfold methOK at h
 split at h
 ·rename_i inf hi
  split at h
  ·rename_i m hm
   simp only [Bool.and_eq_true] at h
   obtain ⟨⟨h1, h2⟩, h3⟩ := h
   split at h1
   ·rename_i f' p hf
    simp only [Bool.and_eq_true, beq_iff_eq] at h1
    obtain ⟨rfl, hp⟩ := h1
    split at h3
    ·rename_i e0 hu
     have hl : m.path.toList = [] := List.isEmpty_iff.1 h2
     have hti : (typeInfo Ty).run P w = .ok inf w := by simp [typeInfo, hi, Sem.run_bind, Sem.run_pure]
     unfold method
     rw [Sem.run_bind, hti]
     simp only [Result.andThen_ok, hm, hl, follow, Sem.run_bind, Sem.run_pure, hf, hp, receiverAt, run_underlying hu, Place.get]
    ·cases h3
   ·cases h1
  ·cases h
 ·cases h
theorem run_method' {Ty : TypeId} {name : String} {f : FuncId} {v : Value} (h : methOK P Ty name f = true) : (method (P.types.size + Made.depth) Ty v name).run P w = .ok (f, v) w :=
 run_method (k := P.types.size + 99) h
/-- A method behind an interface value is called. -/
theorem x_inv {args : Array Operand} {at0 : Array TypeId} {name : String} {Ty : TypeId} {v : Value} {f : FuncId} {vs : List Value} {R : Value → World → Prop} (ho : ops[i]? = some ⟨d, .call ⟨.invoke x name, args, at0⟩, ty, ps, af, g⟩) (hg : guardV ops F g = some true) (hd : dstOK n d = true)
  (hx : ev? F x = some (.iface Ty v)) (hargs : evs? F args.toList = some vs) (hm : methOK P Ty name f = true) (he : entered P f = true) (hc : Ret P f (#[v] ++ vs.toArray) w R) (h : ∀ v' w', R v' w' → pend B i T w' ∧ Ex P n ops B dr K s (putE F d v') ds T w') : Ex P n ops B dr K ((i, true) :: s) F ds T w :=
 Ex.mov_ ho hg hd R (fun a hk => by
  unfold OpR
  have e1 : (#[Value.iface Ty v] ++ vs.toArray).extract 1 (#[Value.iface Ty v] ++ vs.toArray).size = vs.toArray := by
   apply Array.ext'
   simp
  have e0 : (#[Value.iface Ty v] ++ vs.toArray)[0]? = some (.iface Ty v) := by simp
  simp only [execOp, resolve, hk.eval hx, evs_array hk hargs, Sem.run_bind, Sem.run_pure, Result.andThen_ok, invoke, e0, e1, callMethod, run_program, run_method' hm, run_callFunc he, nextR]
  exact hc) h


/-- Bytes are copied over bytes of one's own. -/
theorem x_cpy {b off dLen dCap k Tb : Nat} {cur cs : List Value} {sv : Value} {at0 : Array TypeId} {tx : TypeId} (ho : ops[i]? = some ⟨d, .call ⟨.builtin .copy, #[x, y], at0⟩, ty, ps, af, g⟩) (hg : guardV ops F g = some true) (hd : dstOK n d = true)
  (hat : at0 = #[t, tx]) (ht : P.underlying t = some (.slice e)) (hm : szOf P e = some 1) (hx : ev? F x = some (.slice (some ⟨b, off, none⟩) dLen dCap)) (hy : ev? F y = some sv)
  (hb : w.heap[b]? = some (.cells cur.toArray Tb (0, 0))) (hs : Sg w sv 1 k cs) (h1 : ∀ u ∈ cs, u.oneCell' = true) (hk0 : 0 < k) (hkl : k ≤ dLen) (hfit : off + k ≤ cur.length)
  (h : ∀ w1, w1 = w.putObj b (.cells (cur.take off ++ cs ++ cur.drop (off + k)).toArray Tb (0, 0)) → pend B i T w1 ∧ Ex P n ops B dr K s (putE F d (.int .i64 (k : Int))) ds T w1) : Ex P n ops B dr K ((i, true) :: s) F ds T w := by
 obtain ⟨g1, g2⟩ := h _ rfl
 rcases hs with ⟨h0, _⟩ | ⟨_, h0, _⟩ | ⟨sb, so, scap, all, T', fr, rfl, hcap, hsb, hsc, hsl⟩
 ·omega
 ·omega
 ·have hcl : cs.length = k := by simpa using hsl
  have hsrc : ∀ j v, cs[j]? = some v → w.cell? ((⟨sb, so, none⟩ : Addr).add j) = some v := fun j v hv => by
   have hsl0 : Sl w (.slice (some ⟨sb, so, none⟩) k scap) 1 k cs := .inr ⟨sb, so, scap, all, T', fr, rfl, hcap, hsb, hsc, hsl⟩
   have := Sl.cell1 hsl0 (j := j) hv
   unfold Addr.add
   split
   ·rename_i h0; subst h0; simpa using this
   ·simpa using this
  have hrun := run_copy_row (P := P) w t tx ty e b off dLen dCap ⟨sb, so, none⟩ k scap cur.toArray Tb cs ht hm hb (by rw [hcl]; exact (Nat.min_eq_left hkl).symm) hsrc (by simp; omega) h1
  have hset : w.setRow b (cur.take off ++ cs ++ cur.drop (off + k)).toArray = w.putObj b (.cells (cur.take off ++ cs ++ cur.drop (off + k)).toArray Tb (0, 0)) := by
   unfold World.setRow World.putObj
   congr 1
   apply Array.ext_getElem?
   intro j
   rw [Array.getElem?_modify, Array.getElem?_setIfInBounds]
   split
   ·rename_i hj
    subst hj
    obtain ⟨hlt, he⟩ := Array.getElem?_eq_some_iff.1 hb
    simp [hlt, he]
   ·rfl
  refine x_mv ho hg hd (v := .int .i64 (k : Int)) (w1 := w.putObj b (.cells (cur.take off ++ cs ++ cur.drop (off + k)).toArray Tb (0, 0))) (fun at_ hk => ?_) g1 g2
  subst hat
  simp only [execOp, resolve, hk.eval hx, hk.eval hy, List.map_toArray, List.map_cons, List.map_nil, Sem.run_bind, Sem.run_pure, Result.andThen_ok, invoke, builtin, hrun, hcl, goInt]
  rw [← hset]
end
/-- Some of the bytes. -/
theorem bytes_sub {w : World} {a : Option Addr} {len cap lo hi : Nat} {b : List UInt8} (h : BytesAt w (.slice a len cap) b) (hle : lo ≤ hi) (hle2 : hi ≤ b.length) :
  BytesAt w (.slice (if cap = lo then a else a.map (·.add (lo * 1))) (hi - lo) (cap - lo)) ((b.drop lo).take (hi - lo)) := by
 have hlen : ((b.drop lo).take (hi - lo)).length = hi - lo := by rw [List.length_take, List.length_drop]; omega
 have hcs : byteCs ((b.drop lo).take (hi - lo)) = ((byteCs b).take (hi * 1)).drop (lo * 1) := by
  unfold byteCs
  rw [List.drop_take, Nat.mul_one, Nat.mul_one, List.map_take, List.map_drop]
 unfold BytesAt
 rw [hlen, hcs]
 rcases h with ⟨h1, h2, p, cap', h3⟩ | h
 ·cases h3
  obtain rfl : hi = 0 := by omega
  obtain rfl : lo = 0 := by omega
  exact .inl ⟨rfl, by simp, _, _, rfl⟩
 ·have hb := h.shape
  obtain ⟨p, c, e⟩ := hb
  cases e
  exact .inr ((h.take (j := hi) hle2).drop hle)
end Go.Fw

namespace Go.Proofs.YtigfbpbnohkokaaGreat
open Go Go.Fw Go.RowKit
set_option linter.unusedVariables false
set_option linter.unusedSimpArgs false

section
variable {E : List Ent} {k m : List Raw} {x y : Raw} {i j : Nat}
theorem OkL.single (h : OkL m) : ∀ x ∈ m, singleR x = 0 := fun x hx => by
 obtain ⟨h1, h2, h3, h4⟩ := h.one x hx
 unfold singleR
 rw [if_pos ⟨h1, h2⟩, if_neg (fun e => e.2 (h3 e.1)), if_neg (by omega)]
theorem OkL.together (h : OkL m) : togetherR m = 0 := by
 unfold togetherR
 rw [if_pos h.nd, if_neg]
 rintro ⟨x, hx, y, hy, hd, t, ht, he⟩
 exact h.top x hx y hy hd t ht he

end
end Go.Proofs.YtigfbpbnohkokaaGreat

namespace Go.Proofs.YtigfbpbnohkokaaGreat
open Go Go.Fw Go.RowKit
set_option linter.unusedVariables false
set_option linter.unusedSimpArgs false

/-- Bytes that may be written, whatever they are. -/
def WrN (L : List (Nat × Obj)) (v : Value) (n : Nat) : Prop := (v = .slice none 0 0 ∧ n = 0) ∨ ∃ (bk cap : Nat) (cs : List Value) (T : TypeId), v = .slice (some ⟨bk, 0, none⟩) n cap ∧ (bk, Obj.cells cs.toArray T (0, 0)) ∈ L ∧ n ≤ cs.length ∧ ∀ j < n, ∃ x : UInt8, cs[j]? = some (byteV x)
section
variable {L L' A B : List (Nat × Obj)} {v : Value} {n k : Nat} {b : List UInt8}
theorem WrN.own (h : OwL L v 1 n (byteCs b)) (hs : ∀ y ∈ L, y ∈ L') : WrN L' v n := by
 have hlen := h.len
 rw [byteCs_len] at hlen
 rcases h with ⟨h1, h2, _⟩ | ⟨bk, cap, rest, T, h1, rfl, h3, h4⟩
 ·exact .inl ⟨h1, h2⟩
 ·refine .inr ⟨bk, cap, byteCs b ++ rest, T, h1, hs _ (List.mem_singleton.2 rfl), by rw [List.length_append, byteCs_len]; omega, fun j hj => ?_⟩
  obtain ⟨x, hx⟩ := get_lt (l := b) (q := j) (by omega)
  exact ⟨x, by rw [List.getElem?_append_left (by rw [byteCs_len]; omega)]; exact byteCs_get hx⟩
theorem WrN.mono (h : WrN L v n) (hs : ∀ y ∈ L, y ∈ L') : WrN L' v n := h.imp id fun ⟨bk, cap, cs, T, h1, h2, h3⟩ => ⟨bk, cap, cs, T, h1, hs _ h2, h3⟩
theorem WrN.shape (h : WrN L v n) : ∃ p cap, v = .slice p n cap := by
 rcases h with ⟨rfl, rfl⟩ | ⟨bk, cap, cs, T, rfl, _⟩
 ·exact ⟨none, 0, rfl⟩
 ·exact ⟨_, cap, rfl⟩
/-- Behind a byte that was written. -/
theorem WrN.set {bk T : Nat} {cs : List Value} {y : UInt8} (h : WrN (A ++ (bk, Obj.cells cs.toArray T (0, 0)) :: B) v n) (hcs : ∀ j < k, ∃ x : UInt8, cs[j]? = some (byteV x)) (hk : k ≤ cs.length) {q : Nat} (hq : q < k) :
  WrN (A ++ (bk, Obj.cells (cs.set q (byteV y)).toArray T (0, 0)) :: B) v n := by
 rcases h with h | ⟨b', cap, cs', T', h1, h2, h3, h4⟩
 ·exact .inl h
 ·rcases List.mem_append.1 h2 with h5 | h5
  ·exact .inr ⟨b', cap, cs', T', h1, List.mem_append_left _ h5, h3, h4⟩
  ·rcases List.mem_cons.1 h5 with h6 | h6
   ·simp only [Prod.mk.injEq, Obj.cells.injEq, and_true] at h6
    obtain ⟨rfl, h7, rfl⟩ := h6
    have h7 : cs' = cs := by have := congrArg Array.toList h7; simpa using this
    subst h7
    refine .inr ⟨b', cap, cs'.set q (byteV y), T', h1, List.mem_append_right _ List.mem_cons_self, by rw [List.length_set]; exact h3, fun j hj => ?_⟩
    rw [List.getElem?_set]
    by_cases e : q = j
    ·subst e
     rw [if_pos rfl, if_pos (by omega)]
     exact ⟨y, rfl⟩
    ·rw [if_neg e]; exact h4 j hj
   ·exact .inr ⟨b', cap, cs', T', h1, List.mem_append_right _ (List.mem_cons_of_mem _ h6), h3, h4⟩
end

section
variable {l : List Raw} {w0 : World}
theorem of_r2 {v : Value} (h : FilesAt w0 v l) (hl : l.length ≤ 1000) : Ret Tryz.prog 38 #[v] w0 fun r w' => ∃ po TB, r = .tuple #[.pointer po, .int .i64 (ofL l).2] ∧ Sep w0 TB w' ∧ (po.isNone = !decide ((ofL l).2 = 0)) ∧ ((ofL l).2 = 0 → ∃ E bt, po = some ⟨bt, 0, none⟩ ∧ TB = tb bt E ∧ TR E (ofL l).1) :=
 (of_r h hl).mono fun r w' hh => by
  rcases hh with ⟨h1, h2, hn⟩ | ⟨h1, E, bt, h2, hR, M⟩
  ·exact ⟨none, [], h2, hn, by rw [decide_eq_false h1]; rfl, fun e => absurd e h1⟩
  ·exact ⟨some ⟨bt, 0, none⟩, tb bt E, h2, M, by rw [decide_eq_true h1]; rfl, fun _ => ⟨E, bt, rfl, rfl, hR⟩⟩
end
/-- Rows of one's own, with bytes that may be written. -/
structure InO (Lo Ld : List (Nat × Obj)) (v : Value) (fs : List (Raw × Value)) : Prop where
 own : OwL Lo v 3 fs.length (fCs fs)
 dat : ∀ f ∈ fs, (∃ Lf, (∀ y ∈ Lf, y ∈ Ld) ∧ OwL Lf f.2 1 f.1.2.2.length (byteCs f.1.2.2)) ∧ f.2.oneCell' = true
theorem InO.files {Lo Ld L : List (Nat × Obj)} {v : Value} {fs : List (Raw × Value)} {S : Nat → Prop} {w0 w : World} (h : InO Lo Ld v fs) (M : St S w0 L w) (h1 : ∀ y ∈ Lo, y ∈ L) (h2 : ∀ y ∈ Ld, y ∈ L) : FilesAt w v (fs.map (·.1)) :=
 ⟨fs, rfl, .inr ((h.own.sl (by decide)).at_ M h1), fun f hf => ⟨by
  obtain ⟨⟨Lf, g1, g2⟩, _⟩ := h.dat f hf
  exact .inr ((g2.sl (by decide)).at_ M fun y hy => h2 y (g1 y hy)), (h.dat f hf).2⟩⟩
end Go.Proofs.YtigfbpbnohkokaaGreat

namespace Go.Proofs.YtigfbpbnohkokaaGreat
open Go Go.Fw Go.RowKit
set_option linter.unusedVariables false
set_option linter.unusedSimpArgs false

/-- A file's bytes in memory: its path, its block; of its own, or of the base's file of this name. -/
structure Con where
 k : List UInt8
 b : Nat
 own : Bool
 v : Value
 D : List (Nat × Obj)
 nm : List UInt8
 sz : Int
 d : List UInt8
def Con.cs (c : Con) : List Value := [.bool c.own, c.v, strV c.nm, .int .i64 c.sz]
def Con.hd (c : Con) : Nat × Obj := (c.b, .cells c.cs.toArray 104 (0, 0))
def Con.blks (c : Con) : List (Nat × Obj) := c.hd :: c.D
def cblks (C : List Con) : List (Nat × Obj) := C.flatMap Con.blks
def cget (C : List Con) (p : List UInt8) : Option Con := C.find? (fun c => decide (c.k = p))
def cmap (C : List Con) : List UInt8 → Option Value := fun p => (cget C p).map fun c => ptr c.b
abbrev BaseF := List UInt8 → Option (List UInt8)
structure Con.OK (base : BaseF) (c : Con) : Prop where
 le : c.d.length ≤ 65536
 own : c.own = true → BytesO c.D c.v c.d
 bas : c.own = false → c.D = [] ∧ c.v = .slice none 0 0 ∧ c.sz = c.d.length ∧ base c.nm = some c.d

abbrev Hd := List UInt8 × Bool
def hCs (hs : List Hd) : List Value := hs.flatMap fun h => [strV h.1, .bool h.2]
structure FSt where
 bt : Nat
 bm : Nat
 om : Obj
 E : List Ent
 C : List Con
 hs : List Hd
def fsC (bv : Value) (u : Nat) (S : FSt) : List Value := bv :: ptr S.bt :: .map (some S.bm) :: (hCs S.hs ++ [.int .i64 (u : Int)])
def fsB (bf : Nat) (bv : Value) (u : Nat) (S : FSt) : List (Nat × Obj) := (bf, .cells (fsC bv u S).toArray 90 (0, 0)) :: (S.bm, S.om) :: (tb S.bt S.E ++ cblks S.C)
/-- What is open, by the row of handles. -/
def hAt (hs : List Hd) : HF := fun who n => if 0 ≤ who ∧ who < 8 ∧ 1 ≤ n ∧ n ≤ 16 then (match hs[16 * who.toNat + (n - 1).toNat]? with
 | some h => if h.1 = [] then none else some h
 | none => none) else none
structure FR (base : BaseF) (S : FSt) (l : List Raw) (hf : HF) : Prop where
 tr : TR S.E (bareL l)
 mp : MapF strV S.om (cmap S.C)
 cn : (S.C.map (·.k)).Nodup
 ok : ∀ c ∈ S.C, c.OK base
 cl : ∀ p d, (p, false, d) ∈ l ↔ ∃ c ∈ S.C, c.k = p ∧ c.d = d
 dd : ∀ z ∈ l, z.2.1 = true → z.2.2 = []
 us : usedL l ≤ 262144
 hl : S.hs.length = 128
 hh : hf = hAt S.hs
 ho : ∀ h ∈ S.hs, h.1 ≠ [] → ∃ d, (h.1, false, d) ∈ l

/-- A base that tells these files. -/
structure BaseC (w00 : World) (Lb : List (Nat × Obj)) (bv : Value) (base : BaseF) : Prop where
 tells : ∃ Ty rv f, bv = .iface Ty rv ∧ methOK Tryz.prog Ty "Block" f = true ∧ entered Tryz.prog f = true ∧
  ∀ nm b (i : Nat) X w, base nm = some b → 4096 * i < b.length → Sep w00 (Lb ++ X) w → Ret Tryz.prog f #[rv, .agg #[strV nm, .int .i64 (i : Int)]] w fun r w' => ∃ Lr, BytesO Lr r ((b.drop (4096 * i)).take 4096) ∧ Sep w00 (Lb ++ (X ++ Lr)) w'

def opC (o : OpS) (dv : Value) : List Value := [.int .i64 o.k, strV o.p, strV o.q, .int .i64 o.h, .int .i64 o.a, .int .i64 o.n, .bool o.w, .bool o.c, dv]
def rsV (r : RsS) (dv lv : Value) : Value := .agg #[.int .i64 r.e, .int .i64 r.h, .int .i64 r.n, dv, lv]
def RsO (L : List (Nat × Obj)) (v : Value) (r : RsS) : Prop := ∃ dv lv L1 L2, v = rsV r dv lv ∧ L = L1 ++ L2 ∧ BytesO L1 dv r.d ∧ StrsO L2 lv r.l
theorem RsO.bad {e : Int} : RsO [] (rsV (badS e) (.slice none 0 0) (.slice none 0 0)) (badS e) := ⟨_, _, [], [], rfl, rfl, OwL.nil, OwL.nil⟩

section
variable {C : List Con} {c : Con} {p q d : List UInt8} {hs : List Hd} {h : Hd} {S : FSt} {bv : Value} {u off j : Nat}
theorem cget_mem (h : cget C p = some c) : c ∈ C ∧ c.k = p := ⟨List.mem_of_find?_eq_some h, by have := List.find?_some h; simpa using this⟩
theorem cget_of : ∀ {C : List Con} {c : Con}, (C.map (·.k)).Nodup → c ∈ C → cget C c.k = some c
 | x :: C, c, hn, hc => by
  unfold cget
  rw [List.find?_cons]
  simp only [List.map_cons, List.nodup_cons] at hn
  rcases List.mem_cons.1 hc with rfl | hc
  ·simp
  ·have : x.k ≠ c.k := fun e => hn.1 (e ▸ List.mem_map.2 ⟨c, hc, rfl⟩)
   simp only [this, decide_false]
   exact cget_of hn.2 hc
theorem mem_cblks {x : Nat × Obj} : x ∈ cblks C ↔ ∃ c ∈ C, x ∈ c.blks := List.mem_flatMap
theorem mem_chd (hc : c ∈ C) : c.hd ∈ cblks C := mem_cblks.2 ⟨c, hc, List.mem_cons_self⟩
theorem mem_cD (hc : c ∈ C) {x : Nat × Obj} (hx : x ∈ c.D) : x ∈ cblks C := mem_cblks.2 ⟨c, hc, List.mem_cons_of_mem _ hx⟩

theorem hCs_len (hs : List Hd) : (hCs hs).length = hs.length * 2 := by
 induction hs with
 | nil => rfl
 | cons a l ih => simp only [hCs, List.flatMap_cons, List.length_append, List.length_cons, List.length_nil] at ih ⊢; omega
theorem hCs_app (a b : List Hd) : hCs (a ++ b) = hCs a ++ hCs b := List.flatMap_append
theorem hCs_cons (a : Hd) (b : List Hd) : hCs (a :: b) = strV a.1 :: .bool a.2 :: hCs b := rfl
theorem tk_app {α : Type} {A B : List α} {n : Nat} (h : A.length = n) : (A ++ B).take n = A := by subst h; simp
theorem dr_app {α : Type} {A B : List α} {n : Nat} (k : Nat) (h : A.length = n) : (A ++ B).drop (n + k) = B.drop k := by subst h; simp [List.drop_append]
theorem split_at {α : Type} {l : List α} {x : α} (h : l[j]? = some x) : l = l.take j ++ x :: l.drop (j + 1) := by
 obtain ⟨hl, rfl⟩ := List.getElem?_eq_some_iff.1 h
 rw [← List.drop_eq_getElem_cons hl, List.take_append_drop]
theorem set_at {α : Type} {l : List α} {x y : α} (h : l[j]? = some x) : l.set j y = l.take j ++ y :: l.drop (j + 1) := by
 obtain ⟨hl, _⟩ := List.getElem?_eq_some_iff.1 h
 rw [List.set_eq_take_append_cons_drop, if_pos hl]
theorem fsC_len (hl : S.hs.length = 128) : (fsC bv u S).length = 260 := by
 simp only [fsC, List.length_cons, List.length_append, hCs_len, hl, List.length_nil]
theorem fsC_h (hq : S.hs[j]? = some h) (ho : off = 3 + 2 * j) : ∃ A B, fsC bv u S = A ++ strV h.1 :: .bool h.2 :: B ∧ A.length = off := by
 have e := split_at hq
 have hj : j < S.hs.length := (List.getElem?_eq_some_iff.1 hq).1
 refine ⟨bv :: ptr S.bt :: .map (some S.bm) :: hCs (S.hs.take j), hCs (S.hs.drop (j + 1)) ++ [.int .i64 (u : Int)], ?_, ?_⟩
 ·unfold fsC
  conv => lhs; rw [e]
  rw [hCs_app, hCs_cons]
  simp
 ·simp only [List.length_cons, hCs_len, List.length_take]
  omega
theorem fsC_h0 (hq : S.hs[j]? = some h) (ho : off = 3 + 2 * j) : (fsC bv u S)[off]? = some (strV h.1) := by
 obtain ⟨A, B, e, hA⟩ := fsC_h (bv := bv) (u := u) hq ho
 rw [e, ← hA]; simp
theorem fsC_h1 (hq : S.hs[j]? = some h) (ho : off = 3 + 2 * j + 1) : (fsC bv u S)[off]? = some (.bool h.2) := by
 obtain ⟨A, B, e, hA⟩ := fsC_h (bv := bv) (u := u) hq rfl
 rw [e, show off = A.length + 1 by omega]; simp
theorem fsC_used (hl : S.hs.length = 128) : (fsC bv u S)[259]? = some (.int .i64 (u : Int)) := by
 have e : fsC bv u S = (bv :: ptr S.bt :: .map (some S.bm) :: hCs S.hs) ++ [.int .i64 (u : Int)] := by simp [fsC]
 rw [e, List.getElem?_append_right (by simp [hCs_len, hl])]
 simp [hCs_len, hl]
theorem fsC_put {h' : Hd} (hq : S.hs[j]? = some h) (ho : off = 3 + 2 * j) : (fsC bv u S).take off ++ [strV h'.1, .bool h'.2] ++ (fsC bv u S).drop (off + 2) = fsC bv u { S with hs := S.hs.set j h' } := by
 have hj : j < S.hs.length := (List.getElem?_eq_some_iff.1 hq).1
 have hlen : (hCs (S.hs.take j)).length = 2 * j := by rw [hCs_len, List.length_take]; omega
 have e0 : fsC bv u S = (bv :: ptr S.bt :: .map (some S.bm) :: hCs (S.hs.take j)) ++ (strV h.1 :: .bool h.2 :: (hCs (S.hs.drop (j + 1)) ++ [.int .i64 (u : Int)])) := by
  unfold fsC
  conv => lhs; rw [split_at hq, hCs_app, hCs_cons]
  simp
 have e1 : fsC bv u { S with hs := S.hs.set j h' } = (bv :: ptr S.bt :: .map (some S.bm) :: hCs (S.hs.take j)) ++ (strV h'.1 :: .bool h'.2 :: (hCs (S.hs.drop (j + 1)) ++ [.int .i64 (u : Int)])) := by
  unfold fsC
  simp only
  rw [set_at hq, hCs_app, hCs_cons]
  simp
 have hA : (bv :: ptr S.bt :: .map (some S.bm) :: hCs (S.hs.take j)).length = off := by simp only [List.length_cons, hlen]; omega
 rw [e0, e1, tk_app hA, dr_app 2 hA]
 simp
theorem fsC_put1 {p : List UInt8} (hq : S.hs[j]? = some h) (ho : off = 3 + 2 * j) : (fsC bv u S).take off ++ [strV p] ++ (fsC bv u S).drop (off + 1) = fsC bv u { S with hs := S.hs.set j (p, h.2) } := by
 obtain ⟨A, B, e, hA⟩ := fsC_h (bv := bv) (u := u) hq ho
 have := fsC_put (bv := bv) (u := u) (h' := (p, h.2)) hq ho
 rw [← this, e, ← hA]
 simp
theorem fsC_use {u' : Nat} (hl : S.hs.length = 128) : (fsC bv u S).take 259 ++ [.int .i64 (u' : Int)] ++ (fsC bv u S).drop 260 = fsC bv u' S := by
 have e : ∀ u : Nat, fsC bv u S = (bv :: ptr S.bt :: .map (some S.bm) :: hCs S.hs) ++ [.int .i64 (u : Int)] := fun u => by simp [fsC]
 have hA : (bv :: ptr S.bt :: .map (some S.bm) :: hCs S.hs).length = 259 := by simp [hCs_len, hl]
 rw [e u, e u', tk_app hA, dr_app (n := 259) 1 hA]
 simp
theorem fsC_map {b' : Nat} : (fsC bv u S).take 2 ++ [.map (some b')] ++ (fsC bv u S).drop 3 = fsC bv u { S with bm := b' } := rfl

/-- A row of handles, as a slice. -/
theorem row_sl {w : World} {bf who : Nat} {fr : Nat × Nat} {T : TypeId} (hl : S.hs.length = 128) (hw : who < 8) (hb : w.heap[bf]? = some (.cells (fsC bv u S).toArray T fr)) (ho : off = 3 + 32 * who) : Sl w (.slice (some ⟨bf, off, none⟩) 16 16) 2 16 (hCs ((S.hs.drop (16 * who)).take 16)) := by
 have hA : (hCs (S.hs.take (16 * who))).length = 32 * who := by rw [hCs_len, List.length_take]; omega
 have hB : (hCs ((S.hs.drop (16 * who)).take 16)).length = 32 := by rw [hCs_len, List.length_take, List.length_drop]; omega
 refine .inr ⟨bf, off, 16, _, T, fr, rfl, Nat.le_refl _, hb, ?_, by rw [hB]⟩
 have e : fsC bv u S = (bv :: ptr S.bt :: .map (some S.bm) :: hCs (S.hs.take (16 * who))) ++ (hCs ((S.hs.drop (16 * who)).take 16) ++ (hCs ((S.hs.drop (16 * who)).drop 16) ++ [.int .i64 (u : Int)])) := by
  unfold fsC
  have e1 : S.hs = S.hs.take (16 * who) ++ ((S.hs.drop (16 * who)).take 16 ++ (S.hs.drop (16 * who)).drop 16) := by rw [List.take_append_drop, List.take_append_drop]
  conv => lhs; rw [e1, hCs_app, hCs_app]
  simp
 have hL : (bv :: ptr S.bt :: .map (some S.bm) :: hCs (S.hs.take (16 * who))).length = off := by simp only [List.length_cons, hA]; omega
 show ((fsC bv u S).drop off).take (16 * 2) = _
 rw [e, List.drop_append, hL, List.drop_of_length_le (by omega), Nat.sub_self, List.drop_zero, List.nil_append, List.take_append, hB, List.take_of_length_le (by omega)]
 simp
theorem row_at {who i : Nat} (hq : S.hs[16 * who + i]? = some h) (hi : i < 16) : ((S.hs.drop (16 * who)).take 16)[i]? = some h := by
 rw [List.getElem?_take, if_pos hi, List.getElem?_drop]; exact hq
end
end Go.Proofs.YtigfbpbnohkokaaGreat

namespace Go.Proofs.YtigfbpbnohkokaaGreat
open Go Go.Fw Go.RowKit
set_option linter.unusedVariables false
set_option linter.unusedSimpArgs false

/-- What is known of a client's handle. -/
def hnd (bf : Nat) (S : FSt) (who n : Int) (po : Option Addr) : Prop := (hAt S.hs who n = none ∧ po = none) ∨
 ∃ (a i : Nat) (h : Hd), who = (a : Int) ∧ n = (i : Int) + 1 ∧ a < 8 ∧ i < 16 ∧ S.hs[16 * a + i]? = some h ∧ h.1 ≠ [] ∧ po = some ⟨bf, 3 + 2 * (16 * a + i), none⟩
def byH (bf : Nat) (k : Int) : Value := if k = 2 then .func (.func 68) #[ptr bf] #[] else if k = 3 then .func (.func 69) #[ptr bf] #[] else
 if k = 4 then .func (.func 70) #[ptr bf] #[] else if k = 5 then .func (.func 71) #[ptr bf] #[] else .nilFunc
def byP (bf : Nat) (k : Int) : Value := if k = 6 then .func (.func 72) #[ptr bf] #[] else if k = 7 then .func (.func 73) #[ptr bf] #[] else
 if k = 8 then .func (.func 74) #[ptr bf] #[] else if k = 9 then .func (.func 75) #[ptr bf] #[] else .nilFunc
section
variable {hs : List Hd} {h : Hd} {who n : Int} {a i : Nat}
theorem hAt_out (h : ¬ (0 ≤ who ∧ who < 8 ∧ 1 ≤ n ∧ n ≤ 16)) : hAt hs who n = none := by unfold hAt; rw [if_neg h]
theorem hAt_at (ha : a < 8) (hi : i < 16) : hAt hs (a : Int) ((i : Int) + 1) = match hs[16 * a + i]? with
 | some h => if h.1 = [] then none else some h
 | none => none := by
 unfold hAt
 rw [if_pos ⟨by omega, by omega, by omega, by omega⟩, Int.toNat_natCast, show ((i : Int) + 1 - 1).toNat = i by omega]
 all_goals rfl
theorem hAt_nil (ha : a < 8) (hi : i < 16) (hq : hs[16 * a + i]? = some h) (he : h.1 = []) : hAt hs (a : Int) ((i : Int) + 1) = none := by
 rw [hAt_at ha hi, hq]; simp [he]
theorem hAt_some (ha : a < 8) (hi : i < 16) (hq : hs[16 * a + i]? = some h) (he : h.1 ≠ []) : hAt hs (a : Int) ((i : Int) + 1) = some h := by
 rw [hAt_at ha hi, hq]; simp [he]
end
theorem sl_blk {w : World} {p : Option Addr} {n cap m : Nat} {cs : List Value} (h : Sl w (.slice p n cap) m n cs) (h0 : 0 < n) : ∃ b off, p = some ⟨b, off, none⟩ := by
 rcases h with ⟨_, h1, _⟩ | ⟨b, off, cap', all, T, fr, h1, _⟩
 ·omega
 ·cases h1; exact ⟨b, off, rfl⟩
theorem fidx_some {α : Type} {l : List α} {f : α → Bool} {j : Nat} {x : α} (hx : l[j]? = some x) (hno : ∀ y ∈ l.take j, f y = false) (hf : f x = true) : l.findIdx? f = some j := by
 rw [List.findIdx?_eq_some_iff_getElem]
 obtain ⟨hl, rfl⟩ := List.getElem?_eq_some_iff.1 hx
 refine ⟨hl, hf, fun i hi => ?_⟩
 rw [hno _ (List.mem_take_iff_getElem.2 ⟨i, by omega, rfl⟩)]; simp
def idxI {α : Type} (l : List α) (f : α → Bool) : Int := match l.findIdx? f with | some i => (i : Int) | none => -1
theorem idxI_at {α : Type} {l : List α} {f : α → Bool} {j : Nat} {x : α} (hx : l[j]? = some x) (hno : ∀ y ∈ l.take j, f y = false) (hf : f x = true) : idxI l f = (j : Int) := by
 unfold idxI; rw [fidx_some hx hno hf]
theorem idxI_no {α : Type} {l : List α} {f : α → Bool} (hno : ∀ y ∈ l, f y = false) : idxI l f = -1 := by
 unfold idxI; rw [List.findIdx?_eq_none_iff.2 hno]
theorem any_idx {α : Type} {l : List α} {f : α → Bool} : decide (idxI l f ≥ 0) = l.any f := by
 unfold idxI
 cases h : l.findIdx? f with
 | none =>
  have := List.findIdx?_eq_none_iff.1 h
  rw [List.any_eq_false.2 (fun x hx => by rw [this x hx]; simp)]; decide
 | some i =>
  obtain ⟨hl, hf, _⟩ := List.findIdx?_eq_some_iff_getElem.1 h
  rw [List.any_eq_true.2 ⟨_, List.getElem_mem hl, hf⟩]
  simp
end Go.Proofs.YtigfbpbnohkokaaGreat

namespace Go.Proofs.YtigfbpbnohkokaaGreat
open Go Go.Fw Go.RowKit Go.Proofs
set_option linter.unusedVariables false
set_option linter.unusedSimpArgs false
set_option maxRecDepth 100000
set_option maxHeartbeats 4000000

-- valise/overlay.fail
theorem fail_c {w0 : World} {e : Int}  : Ret Tryz.prog 40 #[.int .i64 e] w0 fun r w' => r = rsV (badS e) (.slice none 0 0) (.slice none 0 0) ∧ New w0 w' := by
 have M : Sep w0 [] w0 := St.nil w0
 refine Ret.of_W Tryz.func40 rfl Tryz.ntmps40 rfl ?_
 refine go 1 ?_
 intro _ _ M
 refine go 2 ?_
 intro _ M
 refine go 1 ?_
 exact ⟨rfl, M.frm⟩

-- (*valise/overlay.content).length
theorem length_c {w0 : World} {c : Con} {base : BaseF} (hb : w0.heap[c.b]? = some c.hd.2) (hOK : c.OK base) : Ret Tryz.prog 48 #[ptr c.b] w0 fun r w' => r = .int .i64 (c.d.length : Int) ∧ w0 = w' := by
 have hcs : w0.heap[c.b]? = some (.cells c.cs.toArray 104 (0, 0)) := hb
 refine Ret.of_W Tryz.func48 rfl Tryz.ntmps48 rfl ?_
 refine go 0 ?_
 refine x_ld rfl rfl rfl Tryz.underlying4 rfl rfl (cell_of hcs rfl) ?_
 refine cnd 0 ?_ ?_
 ·intro hco1
  obtain ⟨p, cap, hv⟩ := (hOK.own hco1).shape
  have hcv : w0.cell? ⟨c.b, 0 + 1, none⟩ = some (.slice p c.d.length cap) := by rw [← hv]; exact cell_of hcs rfl
  refine go 0 ?_
  refine x_ld rfl rfl rfl Tryz.underlying27 rfl rfl hcv ?_
  refine go 2 ?_
  exact ⟨rfl, rfl⟩
 ·intro hco1
  refine go 0 ?_
  refine x_ld rfl rfl rfl Tryz.underlying3 rfl rfl (cell_of hcs rfl) ?_
  refine go 1 ?_
  exact ⟨by rw [(hOK.bas hco1).2.2.1], rfl⟩

-- (*valise/overlay.FS).handles
theorem handles_c {w0 : World} {bf who : Nat} (hw : who < 8) : Ret Tryz.prog 49 #[ptr bf, .int .i64 (who : Int)] w0 fun r w' => r = .slice (some ⟨bf, 0 + 3 + who * 32, none⟩) 16 16 ∧ w0 = w' := by
 refine Ret.of_W Tryz.func49 rfl Tryz.ntmps49 rfl ?_
 refine go 0 ?_
 refine x_iaA who rfl rfl rfl Tryz.underlying88 sz87 rfl rfl rfl (by omega) ?_
 refine x_slArr rfl rfl rfl Tryz.underlying87 sz86 rfl ?_
 refine go 1 ?_
 exact ⟨rfl, rfl⟩

-- (*valise/overlay.FS).handle
theorem handle_c {w0 : World} {bf u : Nat} {bv : Value} {S : FSt} {who n : Int} (hb : w0.heap[bf]? = some (.cells (fsC bv u S).toArray 90 (0, 0))) (hl : S.hs.length = 128) : Ret Tryz.prog 43 #[ptr bf, .int .i64 who, .int .i64 n] w0 fun r w' => (∃ po, r = .pointer po ∧ hnd bf S who n po) ∧ w0 = w' := by
 refine Ret.of_W Tryz.func43 rfl Tryz.ntmps43 rfl ?_
 refine spl 1 9 ?_ ?_
 ·intro hsp1
  refine go 1 ?_
  exact ⟨⟨none, rfl, .inl ⟨hAt_out (by omega), rfl⟩⟩, rfl⟩
 ·intro hsp1
  refine spl 1 13 ?_ ?_
  ·intro hsp2
   refine go 1 ?_
   exact ⟨⟨none, rfl, .inl ⟨hAt_out (by omega), rfl⟩⟩, rfl⟩
  ·intro hsp2
   refine spl 1 17 ?_ ?_
   ·intro hsp3
    refine go 1 ?_
    exact ⟨⟨none, rfl, .inl ⟨hAt_out (by omega), rfl⟩⟩, rfl⟩
   ·intro hsp3
    refine spl 1 21 ?_ ?_
    ·intro hsp4
     refine go 1 ?_
     exact ⟨⟨none, rfl, .inl ⟨hAt_out (by omega), rfl⟩⟩, rfl⟩
    ·intro hsp4
     obtain ⟨a, rfl⟩ : ∃ a : Nat, who = a := ⟨who.toNat, by omega⟩
     obtain ⟨i, rfl⟩ : ∃ i : Nat, n = (i : Int) + 1 := ⟨(n - 1).toNat, by omega⟩
     obtain ⟨hh, hq⟩ := get_lt (l := S.hs) (q := 16 * a + i) (by omega)
     refine go 0 ?_
     refine x_sub (i : Int) rfl rfl rfl rfl rfl (by rw [wsub (by omega) (by omega)]; omega) ?_
     refine go 0 ?_
     refine x_iaA a rfl rfl rfl Tryz.underlying88 sz87 rfl rfl rfl (by omega) ?_
     refine x_iaA i rfl rfl rfl Tryz.underlying87 sz86 rfl rfl rfl (by omega) ?_
     refine go 0 ?_
     refine x_ld rfl rfl rfl Tryz.underlying9 rfl rfl (cell_of hb (fsC_h0 hq (by omega))) ?_
     refine cnd 1 ?_ ?_
     ·intro hco5
      refine go 1 ?_
      exact ⟨⟨none, rfl, .inl ⟨hAt_nil (by omega) (by omega) hq hco5, rfl⟩⟩, rfl⟩
     ·intro hco5
      refine go 0 ?_
      refine x_sub (i : Int) rfl rfl rfl rfl rfl (by rw [wsub (by omega) (by omega)]; omega) ?_
      refine go 0 ?_
      refine x_iaA a rfl rfl rfl Tryz.underlying88 sz87 rfl rfl rfl (by omega) ?_
      refine x_iaA i rfl rfl rfl Tryz.underlying87 sz86 rfl rfl rfl (by omega) ?_
      refine go 1 ?_
      exact ⟨⟨_, rfl, .inr ⟨a, i, hh, rfl, rfl, by omega, by omega, hq, hco5, by congr 2; omega⟩⟩, rfl⟩

-- (*valise/overlay.FS).byHandle
theorem byHandle_c {w0 : World} {bf : Nat} {k : Int}  : Ret Tryz.prog 42 #[ptr bf, .int .i64 k] w0 fun r w' => r = byH bf k ∧ w0 = w' := by
 refine Ret.of_W Tryz.func42 rfl Tryz.ntmps42 rfl ?_
 refine cnd 1 ?_ ?_
 ·intro hco1
  refine go 2 ?_
  exact ⟨by unfold byH; simp only [if_pos hco1], rfl⟩
 ·intro hco1
  refine cnd 1 ?_ ?_
  ·intro hco2
   refine go 2 ?_
   exact ⟨by unfold byH; simp only [if_neg hco1, if_pos hco2], rfl⟩
  ·intro hco2
   refine cnd 1 ?_ ?_
   ·intro hco3
    refine go 2 ?_
    exact ⟨by unfold byH; simp only [if_neg hco1, if_neg hco2, if_pos hco3], rfl⟩
   ·intro hco3
    refine cnd 1 ?_ ?_
    ·intro hco4
     refine go 2 ?_
     exact ⟨by unfold byH; simp only [if_neg hco1, if_neg hco2, if_neg hco3, if_pos hco4], rfl⟩
    ·intro hco4
     refine go 1 ?_
     exact ⟨by unfold byH; simp only [if_neg hco1, if_neg hco2, if_neg hco3, if_neg hco4], rfl⟩

-- (*valise/overlay.FS).byPath
theorem byPath_c {w0 : World} {bf : Nat} {k : Int}  : Ret Tryz.prog 44 #[ptr bf, .int .i64 k] w0 fun r w' => r = byP bf k ∧ w0 = w' := by
 refine Ret.of_W Tryz.func44 rfl Tryz.ntmps44 rfl ?_
 refine cnd 1 ?_ ?_
 ·intro hco1
  refine go 2 ?_
  exact ⟨by unfold byP; simp only [if_pos hco1], rfl⟩
 ·intro hco1
  refine cnd 1 ?_ ?_
  ·intro hco2
   refine go 2 ?_
   exact ⟨by unfold byP; simp only [if_neg hco1, if_pos hco2], rfl⟩
  ·intro hco2
   refine cnd 1 ?_ ?_
   ·intro hco3
    refine go 2 ?_
    exact ⟨by unfold byP; simp only [if_neg hco1, if_neg hco2, if_pos hco3], rfl⟩
   ·intro hco3
    refine cnd 1 ?_ ?_
    ·intro hco4
     refine go 2 ?_
     exact ⟨by unfold byP; simp only [if_neg hco1, if_neg hco2, if_neg hco3, if_pos hco4], rfl⟩
    ·intro hco4
     refine go 1 ?_
     exact ⟨by unfold byP; simp only [if_neg hco1, if_neg hco2, if_neg hco3, if_neg hco4], rfl⟩

-- (*valise/overlay.FS).doOpen$1
theorem open1_c {w0 : World} {h : Hd}  : Ret Tryz.prog 65 #[.agg #[strV h.1, .bool h.2]] w0 fun r w' => r = .bool (decide (h.1 = [])) ∧ New w0 w' := by
 have M : Sep w0 [] w0 := St.nil w0
 refine Ret.of_W Tryz.func65 rfl Tryz.ntmps65 rfl ?_
 refine go 1 ?_
 intro _ _ M
 refine go 3 ?_
 exact ⟨rfl, M.frm⟩

-- (*valise/overlay.FS).busy$1
theorem busy1_c {w0 : World} {h : Hd} {bp : Nat} {p : List UInt8} (hp : w0.heap[bp]? = some (.cells [strV p].toArray 9 (0, 0))) : Ret Tryz.prog 127 #[.agg #[strV h.1, .bool h.2], ptr bp] w0 fun r w' => r = .bool (decide (h.1 = p)) ∧ New w0 w' := by
 have M : Sep w0 [] w0 := St.nil w0
 refine Ret.of_W Tryz.func127 rfl Tryz.ntmps127 rfl ?_
 refine go 1 ?_
 intro _ _ M
 refine go 0 ?_
 refine x_ld rfl rfl rfl Tryz.underlying9 rfl rfl (cell_of (M.at_ 0 rfl) rfl) ?_
 refine x_ld rfl rfl rfl Tryz.underlying9 rfl rfl (cell_of (New.keep M.frm hp) rfl) ?_
 refine go 2 ?_
 exact ⟨rfl, M.frm⟩

-- slices.IndexFunc[[]valise/overlay.handle,valise/overlay.handle]
theorem indexH_c {w0 : World} {p : Option Addr} {cap g : Nat} {cp : Array Value} {l : List Hd} {f : Hd → Bool} (h : Sl w0 (.slice p l.length cap) 2 l.length (hCs l)) (hl : l.length ≤ 1000) (hent : entered Tryz.prog g = true)
  (hg : ∀ x ∈ l, ∀ w, New w0 w → Ret Tryz.prog g (#[] ++ [.agg #[strV x.1, .bool x.2]].toArray ++ cp) w fun r w' => r = .bool (f x) ∧ New w w') : Ret Tryz.prog 64 #[.slice p l.length cap, .func (.func g) #[] cp] w0 fun r w' => r = .int .i64 (idxI l f) ∧ New w0 w' := by
 have M : Sep w0 [] w0 := St.nil w0
 refine Ret.of_W Tryz.func64 rfl Tryz.ntmps64 rfl ?_
 refine go 1 ?_
 refine W.loop (σ := Nat) (fun j => [(0, _), (1, _), (7, _), (8, .int .i64 ((j : Nat) : Int))]) (fun j w => j ≤ l.length ∧ (∀ x ∈ l.take j, f x = false) ∧ Sep w0 [] w) (fun j => l.length - j) 0 ⟨rfl, rfl, rfl, rfl, trivial⟩ ⟨Nat.zero_le _, by simp, M⟩ ?_
 rintro j w ⟨hj, hno, M⟩
 refine cnd 1 ?_ ?_
 ·intro hco1
  obtain ⟨x, hx⟩ := get_lt (l := l) (q := j) (by omega)
  have hs := Sl.same h (fun b hb => M.old b (h.lt b hb) id)
  obtain ⟨b, off, rfl⟩ := sl_blk hs (by omega)
  have hrow := hs.row (j := j) (l := [strV x.1, .bool x.2]) rfl (flat_drop (m := 2) (e1 := fun h : Hd => [strV h.1, .bool h.2]) (by decide) (fun _ _ => rfl) hx) (by simp)
  refine go 0 ?_
  refine x_ia j rfl rfl rfl Tryz.underlying116 sz86 rfl rfl rfl (by omega) ?_
  refine x_ldA [_, _] rfl rfl rfl Tryz.underlying86 rfl sz86 rfl rfl hrow ?_
  refine x_call rfl rfl rfl rfl rfl hent (hg x (List.mem_of_getElem? hx) _ M.frm) ?_
  rintro v w1 ⟨rfl, hn1⟩
  have M := M.new hn1
  refine ⟨trivial, ?_⟩
  refine cnd 0 ?_ ?_
  ·intro hco2
   refine go 1 ?_
   exact ⟨by rw [idxI_at hx hno hco2], M.frm⟩
  ·intro hco2
   refine go 0 ?_
   refine x_add _ rfl rfl rfl rfl rfl (wadd (by omega) (by omega)) ?_
   refine go 0 ?_
   exact At.back (j + 1) ⟨rfl, rfl, rfl, rfl, trivial⟩ ⟨by omega, mem_take_snoc hx hno hco2, M⟩ (by first | omega | (simp only; omega) | (simp; done) | (simp; omega))
 ·intro hco1
  refine go 1 ?_
  have hj2 : j = l.length := by omega
  subst hj2
  rw [List.take_length] at hno
  exact ⟨by rw [idxI_no hno], M.frm⟩

-- slices.ContainsFunc[[]valise/overlay.handle,valise/overlay.handle]
theorem containsH_c {w0 : World} {p : Option Addr} {cap g : Nat} {cp : Array Value} {l : List Hd} {f : Hd → Bool} (h : Sl w0 (.slice p l.length cap) 2 l.length (hCs l)) (hl : l.length ≤ 1000) (hent : entered Tryz.prog g = true)
  (hg : ∀ x ∈ l, ∀ w, New w0 w → Ret Tryz.prog g (#[] ++ [.agg #[strV x.1, .bool x.2]].toArray ++ cp) w fun r w' => r = .bool (f x) ∧ New w w') : Ret Tryz.prog 126 #[.slice p l.length cap, .func (.func g) #[] cp] w0 fun r w' => r = .bool (l.any f) ∧ New w0 w' := by
 have M : Sep w0 [] w0 := St.nil w0
 refine Ret.of_W Tryz.func126 rfl Tryz.ntmps126 rfl ?_
 refine go 0 ?_
 refine x_call rfl rfl rfl rfl rfl en64 (indexH_c h hl hent hg) ?_
 rintro r_ w1 ⟨rfl, hn1⟩
 have M := M.new hn1
 refine ⟨trivial, ?_⟩
 refine go 2 ?_
 exact ⟨by rw [any_idx], M.frm⟩

end Go.Proofs.YtigfbpbnohkokaaGreat

namespace Go.Proofs.YtigfbpbnohkokaaGreat
open Go Go.Fw Go.RowKit
set_option linter.unusedVariables false
set_option linter.unusedSimpArgs false

/-- What the first blocks tell of some bytes. -/
def pieceB (d : List UInt8) (a n j : Nat) : List UInt8 := (d.drop a).take (min (4096 * j) (a + n) - a)
def blkB (d : List UInt8) (j : Nat) : List UInt8 := (d.drop (4096 * j)).take 4096
section
variable {d : List UInt8} {a n j : Nat}
theorem piece_len (h : a + n ≤ d.length) : (pieceB d a n j).length = min (4096 * j) (a + n) - a := by
 unfold pieceB; rw [List.length_take, List.length_drop]; omega
theorem blk_len : (blkB d j).length = min 4096 (d.length - 4096 * j) := by unfold blkB; rw [List.length_take, List.length_drop]
theorem piece_zero : pieceB d a n (a / 4096) = [] := by
 unfold pieceB
 rw [show min (4096 * (a / 4096)) (a + n) - a = 0 by omega]; rfl
theorem piece_end (h : a + n ≤ 4096 * j) : pieceB d a n j = (d.drop a).take n := by
 unfold pieceB
 rw [show min (4096 * j) (a + n) - a = n by omega]
theorem piece_step (h1 : a / 4096 ≤ j) (h2 : 4096 * j < a + n) (h3 : a + n ≤ d.length) :
  pieceB d a n j ++ ((blkB d j).drop (a - 4096 * j)).take (min (blkB d j).length (a + n - 4096 * j) - (a - 4096 * j)) = pieceB d a n (j + 1) := by
 rw [blk_len]
 unfold pieceB blkB
 apply List.ext_getElem?
 intro k
 rw [List.getElem?_append]
 simp only [List.length_take, List.length_drop, List.getElem?_take, List.getElem?_drop]
 by_cases hk : k < min (4096 * j) (a + n) - a
 ·rw [if_pos (by omega), if_pos (by omega), if_pos (by omega)]
 ·rw [if_neg (by omega)]
  by_cases hk2 : k < min (4096 * (j + 1)) (a + n) - a
  ·rw [if_pos hk2, if_pos (by omega), if_pos (by omega)]
   congr 1
   omega
  ·rw [if_neg hk2]
   by_cases hk3 : k - min (min (4096 * j) (a + n) - a) (d.length - a) < min (min 4096 (d.length - 4096 * j)) (a + n - 4096 * j) - (a - 4096 * j)
   ·omega
   ·rw [if_neg hk3]
end
section
variable {w00 w : World} {X : List (Nat × Obj)} {bf u : Nat} {bv : Value} {S : FSt} {c : Con}
theorem fs_at (M : Sep w00 X w) (hs : ∀ y ∈ fsB bf bv u S, y ∈ X) : w.heap[bf]? = some (.cells (fsC bv u S).toArray 90 (0, 0)) := M.get (hs _ List.mem_cons_self)
theorem con_at (M : Sep w00 X w) (hs : ∀ y ∈ fsB bf bv u S, y ∈ X) (hc : c ∈ S.C) : w.heap[c.b]? = some c.hd.2 :=
 M.get (hs (c.b, c.hd.2) (List.mem_cons_of_mem _ (List.mem_cons_of_mem _ (List.mem_append_right _ (mem_chd hc)))))
theorem con_bytes {base : BaseF} (M : Sep w00 X w) (hs : ∀ y ∈ fsB bf bv u S, y ∈ X) (hc : c ∈ S.C) (hK : c.OK base) (ho : c.own = true) : BytesAt w c.v c.d :=
 bytesO_get (hK.own ho) (fun x hx => M.get (hs x (List.mem_cons_of_mem _ (List.mem_cons_of_mem _ (List.mem_append_right _ (mem_cD hc hx))))))
theorem con_cs (M : Sep w00 X w) (hs : ∀ y ∈ fsB bf bv u S, y ∈ X) (hc : c ∈ S.C) : w.heap[c.b]? = some (.cells c.cs.toArray 104 (0, 0)) := con_at M hs hc
theorem bytesO_app {L : List (Nat × Obj)} {v : Value} {x y z : List UInt8} (h : OwL L v 1 (x.length + y.length) (byteCs x ++ byteCs y)) (e : x ++ y = z) : BytesO L v z := by
 subst e
 unfold BytesO
 rw [List.length_append, show byteCs (x ++ y) = byteCs x ++ byteCs y by simp [byteCs]]
 exact h
end
end Go.Proofs.YtigfbpbnohkokaaGreat

namespace Go.Proofs.YtigfbpbnohkokaaGreat
open Go Go.Fw Go.RowKit Go.Proofs
set_option linter.unusedVariables false
set_option linter.unusedSimpArgs false
set_option maxRecDepth 100000
set_option maxHeartbeats 4000000

theorem quo4k {a : Nat} (h : a ≤ 9223372036854775807) : IntKind.i64.wrap (((a : Int)).tdiv 4096) = ((a / 4096 : Nat) : Int) := by
 rw [Int.tdiv_eq_ediv_of_nonneg (by omega), w64 (by omega) (by omega)]; omega

-- (*valise/overlay.FS).blocks
theorem blocks_c {w0 : World} {bf a n : Nat} {c : Con}  : Ret Tryz.prog 83 #[ptr bf, ptr c.b, .int .i64 (a : Int), .int .i64 (n : Int)] w0 fun r w' => ∃ ba bn bg bc, r = .func (.func 114) #[] #[ptr ba, ptr bn, ptr bg, ptr bc] ∧ Sep w0 [(bn, .cells [.int .i64 (n : Int)].toArray 3 (0, 0)), (ba, .cells [.int .i64 (a : Int)].toArray 3 (0, 0)), (bc, .cells [ptr c.b].toArray 102 (0, 0)), (bg, .cells [ptr bf].toArray 34 (0, 0))] w' := by
 have M : Sep w0 [] w0 := St.nil w0
 refine Ret.of_W Tryz.func83 rfl Tryz.ntmps83 rfl ?_
 refine go 1 ?_
 intro _ _ M
 refine go 1 ?_
 intro _ _ M
 refine go 1 ?_
 intro _ _ M
 refine go 1 ?_
 intro _ _ M
 refine go 2 ?_
 exact ⟨_, _, _, _, rfl, M⟩

-- (*valise/overlay.FS).blocks$1
theorem blocks_it {w0 : World} {l0 bf u a n ba bn bg bc fB : Nat} {bv rv : Value} {Ty : TypeId} {S : FSt} {c : Con} {I : Nat → List (Nat × Obj) → World → Prop} (hv : bv = .iface Ty rv) (hm : methOK Tryz.prog Ty "Block" fB = true) (hent : entered Tryz.prog fB = true) (hle : a + n ≤ 65536)
  (hb : ∀ j Lx w, I j Lx w → (w.heap[ba]? = some (.cells [.int .i64 (a : Int)].toArray 3 (0, 0)) ∧ w.heap[bn]? = some (.cells [.int .i64 (n : Int)].toArray 3 (0, 0)) ∧ w.heap[bg]? = some (.cells [ptr bf].toArray 34 (0, 0)) ∧ w.heap[bc]? = some (.cells [ptr c.b].toArray 102 (0, 0))) ∧ w.heap[bf]? = some (.cells (fsC bv u S).toArray 90 (0, 0)) ∧ w.heap[c.b]? = some c.hd.2)
  (hgrow : ∀ j Lx Lr w w', I j Lx w → Sep w Lr w' → I j (Lx ++ Lr) w')
  (hB : ∀ j Lx w, I j Lx w → 4096 * j < a + n → Ret Tryz.prog fB #[rv, .agg #[strV c.nm, .int .i64 (j : Int)]] w fun r w' => ∃ Lr, BytesO Lr r (blkB c.d j) ∧ I j (Lx ++ Lr) w')
  (hY : ∀ j Lx w v, I j Lx w → 4096 * j < a + n → (∃ Lr, BytesO Lr v (blkB c.d j) ∧ ∀ y ∈ Lr, y ∈ Lx) → Yld Tryz.prog l0 [.int .i64 ((4096 * j : Nat) : Int), v] w fun v w' => v = .bool true ∧ I (j + 1) Lx w')
  (h0 : I (a / 4096) [] w0) : Ret Tryz.prog 114 #[.func (.yield l0) #[] #[], ptr ba, ptr bn, ptr bg, ptr bc] w0 fun r w' => r = .tuple #[] ∧ ∃ j Lx, a + n ≤ 4096 * j ∧ I j Lx w' := by
 have hI := h0
 obtain ⟨⟨ha_, hn_, hg_, hc_⟩, hf_, hk_⟩ := hb _ _ _ hI
 refine Ret.of_W Tryz.func114 rfl Tryz.ntmps114 rfl ?_
 refine go 0 ?_
 refine x_ld rfl rfl rfl Tryz.underlying3 rfl rfl (cell_of ha_ rfl) ?_
 refine x_quo ((a / 4096 : Nat) : Int) rfl rfl rfl rfl rfl (by decide) (quo4k (by omega)) ?_
 refine go 0 ?_
 refine W.loop (σ := Nat × List (Nat × Obj)) (fun j => [(0, _), (1, _), (2, _), (3, _), (4, _), (6, .int .i64 ((j.1 : Nat) : Int))]) (fun j w => a / 4096 ≤ j.1 ∧ j.1 ≤ 17 ∧ I j.1 j.2 w) (fun j => 17 - j.1) (a / 4096, []) ⟨rfl, rfl, rfl, rfl, rfl, rfl, trivial⟩ ⟨Nat.le_refl _, by simp only; omega, hI⟩ ?_
 rintro ⟨j, Lx⟩ w ⟨hj0, hj, hJ⟩
 simp only at hj0 hj hJ
 obtain ⟨⟨ha_, hn_, hg_, hc_⟩, hf_, hk_⟩ := hb _ _ _ hJ
 have hcs : w.heap[c.b]? = some (.cells c.cs.toArray 104 (0, 0)) := hk_
 refine go 0 ?_
 refine x_mul ((4096 * j : Nat) : Int) rfl rfl rfl rfl rfl (by rw [wmul (by omega) (by omega)]; omega) ?_
 refine x_ld rfl rfl rfl Tryz.underlying3 rfl rfl (cell_of ha_ rfl) ?_
 refine x_ld rfl rfl rfl Tryz.underlying3 rfl rfl (cell_of hn_ rfl) ?_
 refine x_add _ rfl rfl rfl rfl rfl (wadd (by omega) (by omega)) ?_
 refine cnd 1 ?_ ?_
 ·intro hco1
  refine go 0 ?_
  refine W.regD (by kernel_rfl) #[0, 0, 2, 0, 8, 24, 56, 0, 128, 384, 896, 0, 3968, 120, 8312, 32760, 65535, 131071] [(0, false), (1, false), (2, false), (3, false), (4, false), (5, false), (6, false), (7, false), (8, false), (9, false), (10, false), (11, false), (12, false), (13, false), (14, false), (15, true), (16, true), (17, false)] (by kernel_rfl) ?_
  intro K wD1 hK hwD1
  have hJ : I j Lx wD1 := by have := hgrow _ _ [] _ _ hJ ((St.nil _).drew hwD1); rwa [List.append_nil] at this
  obtain ⟨⟨ha_, hn_, hg_, hc_⟩, hf_, hk_⟩ := hb _ _ _ hJ
  have hcs : wD1.heap[c.b]? = some (.cells c.cs.toArray 104 (0, 0)) := hk_
  refine go 0 ?_
  refine x_mul ((4096 * j : Nat) : Int) rfl rfl rfl rfl rfl (by rw [wmul (by omega) (by omega)]; omega) ?_
  refine x_ld rfl rfl rfl Tryz.underlying34 rfl rfl (cell_of hg_ rfl) ?_
  refine go 0 ?_
  refine x_ld rfl rfl rfl Tryz.underlying82 rfl rfl (by have h5 : wD1.cell? ⟨bf, 0, none⟩ = some bv := cell_of hf_ rfl; rw [hv] at h5; exact h5) ?_
  refine x_ld rfl rfl rfl Tryz.underlying102 rfl rfl (cell_of hc_ rfl) ?_
  refine go 0 ?_
  refine x_ld rfl rfl rfl Tryz.underlying9 rfl rfl (cell_of hcs rfl) ?_
  refine go 1 ?_
  refine x_inv rfl rfl rfl rfl rfl hm hent (hB _ _ _ hJ (by omega)) ?_
  rintro v1 w1 ⟨Lr, hbr, hJ⟩
  obtain ⟨pv, cv, rfl⟩ := hbr.shape
  refine pnd ?_
  refine x_yld rfl rfl rfl rfl rfl (hY _ _ _ _ hJ (by omega) ⟨Lr, hbr, fun y hy => List.mem_append_right _ hy⟩) ?_
  rintro v2 w2 ⟨rfl, hJ⟩
  refine pnd ?_
  refine go 1 ?_
  refine x_add _ rfl rfl rfl rfl rfl (wadd (by omega) (by omega)) ?_
  refine go 0 ?_
  exact At.back ((j + 1, _)) ⟨rfl, rfl, rfl, rfl, rfl, rfl, trivial⟩ ⟨by simp only; omega, by simp only; omega, hJ⟩ (by first | omega | (simp only; omega) | (simp; done) | (simp; omega))
 ·intro hco1
  refine go 1 ?_
  exact ⟨rfl, j, Lx, by omega, hJ⟩

end Go.Proofs.YtigfbpbnohkokaaGreat

namespace Go.Proofs.YtigfbpbnohkokaaGreat
open Go Go.Fw Go.RowKit Go.Proofs
set_option linter.unusedVariables false
set_option linter.unusedSimpArgs false
set_option maxRecDepth 100000
set_option maxHeartbeats 4000000

-- (*valise/overlay.FS).bytes
theorem bytes_c {w00 w0 : World} {bf u a n : Nat} {bv : Value} {S : FSt} {c : Con} {base : BaseF} {Lb L : List (Nat × Obj)} (M : Sep w00 (fsB bf bv u S ++ (Lb ++ L)) w0) (hc : c ∈ S.C) (hOK : c.OK base) (hB : BaseC w00 Lb bv base) (hle : a + n ≤ c.d.length) : Ret Tryz.prog 47 #[ptr bf, ptr c.b, .int .i64 (a : Int), .int .i64 (n : Int)] w0 fun r w' => ∃ Lr, BytesO Lr r ((c.d.drop a).take n) ∧ Sep w00 (fsB bf bv u S ++ (Lb ++ (L ++ Lr))) w' := by
 obtain ⟨Ty, rv, fB, hbv, hmeth, hentB, htell⟩ := hB.tells
 have hcl := hOK.le
 refine Ret.of_W Tryz.func47 rfl Tryz.ntmps47 rfl ?_
 refine go 1 ?_
 intro bbx1 _ M
 refine go 1 ?_
 intro bbx2 _ M
 refine go 0 ?_
 refine x_ld rfl rfl rfl Tryz.underlying4 rfl rfl (cell_of (con_cs M (fun y (hy : y ∈ fsB bf bv u S) => by simp [hy]) hc) rfl) ?_
 refine cnd 0 ?_ ?_
 ·intro hco1
  refine go 0 ?_
  refine W.regD (by kernel_rfl) #[0, 1, 3, 7, 0, 0, 0, 96, 255, 511, 1023] [(0, false), (1, false), (2, false), (3, false), (4, false), (5, false), (6, false), (7, false), (8, false), (9, true), (10, false)] (by kernel_rfl) ?_
  intro K wD1 hK hwD1
  have M := M.drew hwD1
  obtain ⟨p, cap, hv, hcap⟩ := (hOK.own hco1).shape2 (by decide)
  have hcb := con_bytes M (fun y (hy : y ∈ fsB bf bv u S) => by simp [hy]) hc hOK hco1
  have hcv : wD1.cell? ⟨c.b, 0 + 1, none⟩ = some (.slice p c.d.length cap) := by rw [← hv]; exact cell_of (con_cs M (fun y (hy : y ∈ fsB bf bv u S) => by simp [hy]) hc) rfl
  rw [hv] at hcb
  refine go 0 ?_
  refine x_ld rfl rfl rfl Tryz.underlying27 rfl rfl hcv ?_
  refine go 3 ?_
  refine x_add ((a + n : Nat) : Int) rfl rfl rfl rfl rfl (by rw [wadd (by omega) (by omega)]; omega) ?_
  refine x_sllh a (a + n) rfl rfl rfl Tryz.underlying27 sz5 rfl rfl rfl rfl rfl (by omega) (by omega) ?_
  refine x_call rfl rfl rfl rfl rfl en82 (clone_c (bytes_sub hcb (lo := a) (hi := a + n) (by omega) hle) (by rw [List.length_take, List.length_drop]; omega)) ?_
  rintro r_ w1 ⟨Lr, M1, hb1⟩
  have M := M.grow M1
  rw [show a + n - a = n by omega] at hb1
  obtain ⟨p1, c1, rfl⟩ := hb1.shape
  refine pnd ?_
  refine go 1 ?_
  simp only [List.cons_append, List.append_assoc] at M
  exact ⟨Lr, hb1, M.tail.tail⟩
 ·intro hco1
  refine go 1 ?_
  refine x_ms 0 n rfl rfl rfl Tryz.underlying27 sz5 ze5 rfl by5 rfl rfl (by omega) (by show 1 * n ≤ 281474976710656; omega) (by omega) ?_
  intro bms wms hbms hwms
  have M := M.acons hbms hwms
  refine ⟨trivial, ?_⟩
  refine go 1 ?_
  intro bal1 _ M
  refine x_st [_] _ rfl rfl rfl sz27 rfl rfl rfl rfl (by first | exact M.at_ 0 rfl | exact M.at_ 1 rfl | exact M.at_ 2 rfl | exact M.at_ 3 rfl | exact M.at_ 4 rfl | exact M.at_ 5 rfl | exact M.at_ 6 rfl | exact M.at_ 7 rfl) rfl rfl rfl ?_
  intro wst1 hwst1
  have M : Sep w00 ((bal1, .cells [.slice (some ⟨bms, 0, none⟩) 0 n].toArray 27 (0, 0)) :: (bms, .cells (List.replicate n (.int .u8 0)).toArray 5 (0, 0)) :: (bbx2, .cells [.int .i64 (n : Int)].toArray 3 (0, 0)) :: (bbx1, .cells [.int .i64 (a : Int)].toArray 3 (0, 0)) :: (fsB bf bv u S ++ (Lb ++ L))) wst1 := M.put 0 rfl hwst1
  refine ⟨trivial, ?_⟩
  refine cnd 2 ?_ ?_
  ·intro hco2
   have hn0 : n = 0 := by omega
   refine go 2 ?_
   have M : Sep w00 ([(bal1, .cells [.slice (some ⟨bms, 0, none⟩) 0 n].toArray 27 (0, 0)), (bbx2, .cells [.int .i64 (n : Int)].toArray 3 (0, 0)), (bbx1, .cells [.int .i64 (a : Int)].toArray 3 (0, 0))] ++ (fsB bf bv u S ++ (Lb ++ (L ++ [(bms, .cells (List.replicate n (.int .u8 0)).toArray 5 (0, 0))])))) _ := M.perm (perm_c fun p => by simp only [List.countP_append, List.countP_cons, List.countP_nil]; omega)
   refine ⟨[(bms, .cells (List.replicate n (.int .u8 0)).toArray 5 (0, 0))], ?_, St.dropL (L' := [_, _, _]) M⟩
   subst hn0
   exact .inr ⟨bms, 0, [], _, rfl, rfl, rfl, rfl⟩
  ·intro hco2
   refine go 2 ?_
   refine x_call rfl rfl rfl rfl rfl en83 (blocks_c) ?_
   rintro r_ wcall2 ⟨ba, bn, bg, bc, rfl, M2⟩
   have M := M.grow M2
   refine ⟨trivial, ?_⟩
   refine go 0 ?_
   refine W.range rfl en114 (fun rr hkt hps has hbdrng1 w2 hw2 => ?_)
   have M := M.range hw2
   have M : Sep w00 ([(wcall2.heap.size + 1, .loop { rr with state := .ready, pending := none }), (wcall2.heap.size, .deferred (some [])), (bal1, .cells [.slice (some ⟨bms, 0, none⟩) 0 n].toArray 27 (0, 0)), (bbx2, .cells [.int .i64 (n : Int)].toArray 3 (0, 0)), (bbx1, .cells [.int .i64 (a : Int)].toArray 3 (0, 0)), (bn, .cells [.int .i64 (n : Int)].toArray 3 (0, 0)), (ba, .cells [.int .i64 (a : Int)].toArray 3 (0, 0)), (bc, .cells [ptr c.b].toArray 102 (0, 0)), (bg, .cells [ptr bf].toArray 34 (0, 0))] ++ ([(bms, .cells (List.replicate n (.int .u8 0)).toArray 5 (0, 0))] ++ (fsB bf bv u S ++ (Lb ++ (L ++ []))))) w2 := M.perm (perm_c fun p => by simp only [List.countP_append, List.countP_cons, List.countP_nil]; omega)
   obtain ⟨_, _, _, hbase⟩ := hOK.bas hco1
   refine (blocks_it (c := c) (S := S) (u := u) (a := a) (n := n) (bf := bf) (I := fun j Lx w' => ∃ ov Lo, a / 4096 ≤ j ∧ BytesO Lo ov (pieceB c.d a n j) ∧ Sep w00 ([(wcall2.heap.size + 1, .loop { rr with state := .ready, pending := none }), (wcall2.heap.size, .deferred (some [])), (bal1, .cells [ov].toArray 27 (0, 0)), (bbx2, .cells [.int .i64 (n : Int)].toArray 3 (0, 0)), (bbx1, .cells [.int .i64 (a : Int)].toArray 3 (0, 0)), (bn, .cells [.int .i64 (n : Int)].toArray 3 (0, 0)), (ba, .cells [.int .i64 (a : Int)].toArray 3 (0, 0)), (bc, .cells [ptr c.b].toArray 102 (0, 0)), (bg, .cells [ptr bf].toArray 34 (0, 0))] ++ (Lo ++ (fsB bf bv u S ++ (Lb ++ (L ++ Lx))))) w') hbv hmeth hentB (by omega) ?_ ?_ ?_ ?_ ⟨_, [(bms, .cells (List.replicate n (.int .u8 0)).toArray 5 (0, 0))], Nat.le_refl _, ?_, M⟩).mono ?_
   ·rintro j Lx w' ⟨ov, Lo, hj, ho, M⟩
    exact ⟨⟨M.at_ 6 rfl, M.at_ 5 rfl, M.at_ 8 rfl, M.at_ 7 rfl⟩, fs_at M (fun y (hy : y ∈ fsB bf bv u S) => by simp [hy]), con_at M (fun y (hy : y ∈ fsB bf bv u S) => by simp [hy]) hc⟩
   ·rintro j Lx Lr w' w1 ⟨ov, Lo, hj, ho, M⟩ M1
    exact ⟨ov, Lo, hj, ho, by simpa only [List.append_assoc] using M.grow M1⟩
   ·rintro j Lx w' ⟨ov, Lo, hj, ho, M⟩ hlt
    have M : Sep w00 (Lb ++ ([(wcall2.heap.size + 1, .loop { rr with state := .ready, pending := none }), (wcall2.heap.size, .deferred (some [])), (bal1, .cells [ov].toArray 27 (0, 0)), (bbx2, .cells [.int .i64 (n : Int)].toArray 3 (0, 0)), (bbx1, .cells [.int .i64 (a : Int)].toArray 3 (0, 0)), (bn, .cells [.int .i64 (n : Int)].toArray 3 (0, 0)), (ba, .cells [.int .i64 (a : Int)].toArray 3 (0, 0)), (bc, .cells [ptr c.b].toArray 102 (0, 0)), (bg, .cells [ptr bf].toArray 34 (0, 0))] ++ (Lo ++ (fsB bf bv u S ++ (L ++ Lx))))) w' := M.perm (perm_c fun p => by simp only [List.countP_append, List.countP_cons, List.countP_nil]; omega)
    refine (htell c.nm c.d j _ _ hbase (by omega) M).mono ?_
    rintro r_ w1 ⟨Lr, hbr, M⟩
    exact ⟨Lr, hbr, ov, Lo, hj, ho, M.perm (perm_c fun p => by simp only [List.countP_append, List.countP_cons, List.countP_nil]; omega)⟩
   ·rintro j Lx w' v ⟨ov, Lo, hj, ho, M⟩ hlt ⟨Lr, hbr, hsub⟩
    obtain ⟨pv, cv, rfl, hcv⟩ := hbr.shape2 (by decide)
    have hbl := blk_len (d := c.d) (j := j)
    have hpl := piece_len (j := j) hle
    obtain ⟨po, co, rfl⟩ := ho.shape
    refine Yld.two (M.at_ 0 rfl) hkt hps rfl rfl has ?_
    refine go 0 ?_
    refine At.asg hbdrng1 (M.at_ 0 rfl) ?_
    generalize hwb : World.putObj _ _ _ = wb
    have M : Sep w00 ([(wcall2.heap.size + 1, .loop { rr with state := .busy, pending := none }), (wcall2.heap.size, .deferred (some [])), (bal1, .cells [.slice po (pieceB c.d a n j).length co].toArray 27 (0, 0)), (bbx2, .cells [.int .i64 (n : Int)].toArray 3 (0, 0)), (bbx1, .cells [.int .i64 (a : Int)].toArray 3 (0, 0)), (bn, .cells [.int .i64 (n : Int)].toArray 3 (0, 0)), (ba, .cells [.int .i64 (a : Int)].toArray 3 (0, 0)), (bc, .cells [ptr c.b].toArray 102 (0, 0)), (bg, .cells [ptr bf].toArray 34 (0, 0))] ++ (Lo ++ (fsB bf bv u S ++ (Lb ++ (L ++ Lx))))) wb := M.put 0 rfl hwb.symm
    refine go 0 ?_
    refine W.regD (by kernel_rfl) #[0, 0, 0, 0, 12, 28, 0, 64, 0, 0, 768, 0, 3840, 8128, 16382, 32767, 65535] [(0, false), (1, false), (2, false), (3, false), (4, false), (5, false), (6, false), (7, false), (8, false), (9, false), (10, false), (11, false), (12, false), (13, false), (14, false), (15, true), (16, true)] (by kernel_rfl) ?_
    intro K wD2 hK hwD2
    have M := M.drew hwD2
    refine go 2 ?_
    refine x_sub _ rfl rfl rfl rfl rfl (wsub (by omega) (by omega)) ?_
    refine x_max ((a - 4096 * j : Nat) : Int) rfl rfl rfl rfl rfl (by split <;> omega) ?_
    refine go 3 ?_
    refine x_add ((a + n : Nat) : Int) rfl rfl rfl rfl rfl (by rw [wadd (by omega) (by omega)]; omega) ?_
    refine go 0 ?_
    refine x_sub ((a + n - 4096 * j : Nat) : Int) rfl rfl rfl rfl rfl (by rw [wsub (by omega) (by omega)]; omega) ?_
    refine x_min ((min (blkB c.d j).length (a + n - 4096 * j) : Nat) : Int) rfl rfl rfl rfl rfl (by split <;> omega) ?_
    refine x_sllh (a - 4096 * j) (min (blkB c.d j).length (a + n - 4096 * j)) rfl rfl rfl Tryz.underlying27 sz5 rfl rfl rfl rfl rfl (by omega) (by omega) ?_
    have hba : BytesAt wD2 (.slice pv (blkB c.d j).length cv) (blkB c.d j) := bytesO_get hbr (fun y hy => M.get (by simp [hsub y hy]))
    have hsb := bytes_sub hba (lo := a - 4096 * j) (hi := min (blkB c.d j).length (a + n - 4096 * j)) (by omega) (by omega)
    have hsl := congrArg List.length (piece_step hj hlt hle)
    rw [List.length_append, piece_len hle, piece_len hle] at hsl
    have M : Sep w00 (Lo ++ ([(wcall2.heap.size + 1, .loop { rr with state := .busy, pending := none }), (wcall2.heap.size, .deferred (some [])), (bal1, .cells [.slice po (pieceB c.d a n j).length co].toArray 27 (0, 0)), (bbx2, .cells [.int .i64 (n : Int)].toArray 3 (0, 0)), (bbx1, .cells [.int .i64 (a : Int)].toArray 3 (0, 0)), (bn, .cells [.int .i64 (n : Int)].toArray 3 (0, 0)), (ba, .cells [.int .i64 (a : Int)].toArray 3 (0, 0)), (bc, .cells [ptr c.b].toArray 102 (0, 0)), (bg, .cells [ptr bf].toArray 34 (0, 0))] ++ (fsB bf bv u S ++ (Lb ++ (L ++ Lx))))) wD2 := M.perm (perm_c fun p => by simp only [List.countP_append, List.countP_cons, List.countP_nil]; omega)
    refine x_apL rfl rfl rfl rfl Tryz.underlying27 sz5 ze5 rfl by5 rfl rfl ho M (byteCs_one _) (hsb.src Tryz.underlying27 (byteCs_one _)) (by omega) (by decide) (by omega) ?_
    intro Lo2 v6 w6 how M
    have how := bytesO_app how (piece_step hj hlt hle)
    obtain ⟨p6, c6, rfl⟩ := how.shape
    have M : Sep w00 ([(wcall2.heap.size + 1, .loop { rr with state := .busy, pending := none }), (wcall2.heap.size, .deferred (some [])), (bal1, .cells [.slice po (pieceB c.d a n j).length co].toArray 27 (0, 0)), (bbx2, .cells [.int .i64 (n : Int)].toArray 3 (0, 0)), (bbx1, .cells [.int .i64 (a : Int)].toArray 3 (0, 0)), (bn, .cells [.int .i64 (n : Int)].toArray 3 (0, 0)), (ba, .cells [.int .i64 (a : Int)].toArray 3 (0, 0)), (bc, .cells [ptr c.b].toArray 102 (0, 0)), (bg, .cells [ptr bf].toArray 34 (0, 0))] ++ (Lo2 ++ (fsB bf bv u S ++ (Lb ++ (L ++ Lx))))) w6 := M.perm (perm_c fun p => by simp only [List.countP_append, List.countP_cons, List.countP_nil]; omega)
    refine pnd ?_
    refine x_st [_] _ rfl rfl rfl sz27 rfl rfl rfl rfl (by first | exact M.at_ 0 rfl | exact M.at_ 1 rfl | exact M.at_ 2 rfl | exact M.at_ 3 rfl | exact M.at_ 4 rfl | exact M.at_ 5 rfl | exact M.at_ 6 rfl | exact M.at_ 7 rfl) rfl rfl rfl ?_
    intro wst2 hwst2
    have M : Sep w00 ([(wcall2.heap.size + 1, .loop { rr with state := .busy, pending := none }), (wcall2.heap.size, .deferred (some [])), (bal1, .cells [.slice p6 (pieceB c.d a n (j + 1)).length c6].toArray 27 (0, 0)), (bbx2, .cells [.int .i64 (n : Int)].toArray 3 (0, 0)), (bbx1, .cells [.int .i64 (a : Int)].toArray 3 (0, 0)), (bn, .cells [.int .i64 (n : Int)].toArray 3 (0, 0)), (ba, .cells [.int .i64 (a : Int)].toArray 3 (0, 0)), (bc, .cells [ptr c.b].toArray 102 (0, 0)), (bg, .cells [ptr bf].toArray 34 (0, 0))] ++ (Lo2 ++ (fsB bf bv u S ++ (Lb ++ (L ++ Lx))))) wst2 := M.put 2 rfl hwst2
    refine pnd ?_
    refine go 0 ?_
    refine At.rnd_n (by first | exact M.at_ 0 rfl | exact M.at_ 1 rfl | exact M.at_ 2 rfl | exact M.at_ 3 rfl | exact M.at_ 4 rfl | exact M.at_ 5 rfl | exact M.at_ 6 rfl | exact M.at_ 7 rfl) ?_
    generalize hwy : World.putObj _ _ _ = wy
    have M : Sep w00 ([(wcall2.heap.size + 1, .loop { rr with state := .ready, pending := none }), (wcall2.heap.size, .deferred (some [])), (bal1, .cells [.slice p6 (pieceB c.d a n (j + 1)).length c6].toArray 27 (0, 0)), (bbx2, .cells [.int .i64 (n : Int)].toArray 3 (0, 0)), (bbx1, .cells [.int .i64 (a : Int)].toArray 3 (0, 0)), (bn, .cells [.int .i64 (n : Int)].toArray 3 (0, 0)), (ba, .cells [.int .i64 (a : Int)].toArray 3 (0, 0)), (bc, .cells [ptr c.b].toArray 102 (0, 0)), (bg, .cells [ptr bf].toArray 34 (0, 0))] ++ (Lo2 ++ (fsB bf bv u S ++ (Lb ++ (L ++ Lx))))) wy := M.put 0 rfl hwy.symm
    exact ⟨rfl, _, Lo2, by omega, how, M⟩
   ·rw [piece_zero]
    exact .inr ⟨bms, n, List.replicate n (.int .u8 0), _, rfl, rfl, rfl, by simp [byteCs]⟩
   ·rintro v w3 ⟨rfl, j, Lx, hjn, ov, Lo, hj, ho, M⟩
    refine .inl ⟨.ready, by simp, M.at_ 0 rfl, ?_⟩
    generalize hwx : World.putObj _ _ _ = w4
    have M : Sep w00 ([(wcall2.heap.size + 1, .loop { rr with state := .exhausted, pending := none }), (wcall2.heap.size, .deferred (some [])), (bal1, .cells [ov].toArray 27 (0, 0)), (bbx2, .cells [.int .i64 (n : Int)].toArray 3 (0, 0)), (bbx1, .cells [.int .i64 (a : Int)].toArray 3 (0, 0)), (bn, .cells [.int .i64 (n : Int)].toArray 3 (0, 0)), (ba, .cells [.int .i64 (a : Int)].toArray 3 (0, 0)), (bc, .cells [ptr c.b].toArray 102 (0, 0)), (bg, .cells [ptr bf].toArray 34 (0, 0))] ++ (Lo ++ (fsB bf bv u S ++ (Lb ++ (L ++ Lx))))) w4 := M.put 0 rfl hwx.symm
    rw [piece_end hjn] at ho
    obtain ⟨po, co, rfl⟩ := ho.shape
    refine go 1 ?_
    refine At.mark (M.at_ 1 rfl) ?_
    generalize hwy : World.putObj _ _ _ = w5
    have M := M.put 1 rfl hwy.symm
    refine go 1 ?_
    have M9 : Sep w00 (Lo ++ (fsB bf bv u S ++ (Lb ++ (L ++ Lx)))) _ := M.tail.tail.tail.tail.tail.tail.tail.tail.tail
    have M10 : Sep w00 (Lx ++ (fsB bf bv u S ++ (Lb ++ (L ++ Lo)))) _ := M9.perm (perm_c fun p => by simp only [List.countP_append, List.countP_cons, List.countP_nil]; omega)
    exact ⟨Lo, ho, M10.dropL⟩

end Go.Proofs.YtigfbpbnohkokaaGreat

namespace Go.Proofs.YtigfbpbnohkokaaGreat
open Go Go.Fw Go.RowKit
set_option linter.unusedVariables false
set_option linter.unusedSimpArgs false

theorem bare_names' (l : List Raw) : (bareL l).map (·.1) = l.map (·.1) := by unfold bareL; rw [List.map_map]; rfl
theorem find_nd : ∀ {l : List Raw} {z : Raw}, (l.map (·.1)).Nodup → z ∈ l → l.find? (fun x => decide (x.1 = z.1)) = some z
 | x :: l, z, hn, hz => by
  rw [List.find?_cons]
  simp only [List.map_cons, List.nodup_cons] at hn
  rcases List.mem_cons.1 hz with rfl | hz
  ·simp
  ·have : x.1 ≠ z.1 := fun e => hn.1 (e ▸ List.mem_map.2 ⟨z, hz, rfl⟩)
   simp only [this, decide_false]
   exact find_nd hn.2 hz
theorem names_inj {l : List Raw} {x y : Raw} (hn : (l.map (·.1)).Nodup) (hx : x ∈ l) (hy : y ∈ l) (h : x.1 = y.1) : x = y := by
 have h1 := find_nd hn hx
 have h2 := find_nd hn hy
 rw [h] at h1
 exact Option.some.inj (h1.symm.trans h2)
theorem usedL_app (a b : List Raw) : usedL (a ++ b) = usedL a + usedL b := by simp [usedL]
theorem usedL_cons (x : Raw) (b : List Raw) : usedL (x :: b) = x.2.2.length + usedL b := by simp [usedL]
theorem usedL_mem {l : List Raw} {x : Raw} (h : x ∈ l) : x.2.2.length ≤ usedL l := by
 obtain ⟨A, B, rfl⟩ := List.append_of_mem h
 rw [usedL_app, usedL_cons]; omega
theorem usedL_perm {a b : List Raw} (h : a.Perm b) : usedL a = usedL b := (h.map _).sum_nat
theorem fileD_of {l : List Raw} {p d : List UInt8} (hn : (l.map (·.1)).Nodup) (hm : (p, false, d) ∈ l) : fileD l p = some d := by
 unfold fileD
 rw [find_nd (z := (p, false, d)) hn hm]; rfl
theorem setD_split {l : List Raw} {p b d : List UInt8} (hn : (l.map (·.1)).Nodup) (hm : (p, false, d) ∈ l) : ∃ A B, l = A ++ (p, false, d) :: B ∧ setD l p b = A ++ (p, false, b) :: B := by
 obtain ⟨A, B, rfl⟩ := List.append_of_mem hm
 refine ⟨A, B, rfl, ?_⟩
 rw [List.map_append, List.map_cons, List.nodup_append] at hn
 obtain ⟨_, h2, h3⟩ := hn
 have id1 : ∀ {X : List Raw}, (∀ x ∈ X, x.1 ≠ p) → X.map (fun x => if x.1 = p then (x.1, x.2.1, b) else x) = X := by
  intro X hX
  conv => rhs; rw [← List.map_id X]
  apply List.map_congr_left
  intro x hx
  rw [if_neg (hX x hx)]; rfl
 unfold setD
 rw [List.map_append, List.map_cons, id1 (fun x hx e => h3 x.1 (List.mem_map.2 ⟨x, hx, rfl⟩) p (by simp) e), id1 (fun x hx e => (List.nodup_cons.1 h2).1 (List.mem_map.2 ⟨x, hx, e⟩)), if_pos rfl]
theorem mem_setD {l : List Raw} {p b : List UInt8} {z : Raw} : z ∈ setD l p b ↔ (z ∈ l ∧ z.1 ≠ p) ∨ (z.1 = p ∧ z.2.2 = b ∧ ∃ y ∈ l, y.1 = p ∧ y.2.1 = z.2.1) := by
 unfold setD
 rw [List.mem_map]
 constructor
 ·rintro ⟨x, hx, rfl⟩
  by_cases h : x.1 = p
  ·rw [if_pos h]; exact .inr ⟨h, rfl, x, hx, h, rfl⟩
  ·rw [if_neg h]; exact .inl ⟨hx, h⟩
 ·rintro (⟨h1, h2⟩ | ⟨h1, h2, y, h3, h4, h5⟩)
  ·exact ⟨z, h1, if_neg h2⟩
  ·refine ⟨y, h3, ?_⟩
   rw [if_pos h4, h4, h5, ← h1, ← h2]

/-- The bytes of a path are others. -/
def updC (C : List Con) (p : List UInt8) (c' : Con) : List Con := C.map fun c => if c.k = p then c' else c
theorem updC_split {C : List Con} {c : Con} (hn : (C.map (·.k)).Nodup) (hc : c ∈ C) : ∃ A B, C = A ++ c :: B ∧ ∀ c', updC C c.k c' = A ++ c' :: B := by
 obtain ⟨A, B, rfl⟩ := List.append_of_mem hc
 refine ⟨A, B, rfl, fun c' => ?_⟩
 rw [List.map_append, List.map_cons, List.nodup_append] at hn
 obtain ⟨_, h2, h3⟩ := hn
 have id1 : ∀ {X : List Con}, (∀ x ∈ X, x.k ≠ c.k) → X.map (fun x => if x.k = c.k then c' else x) = X := by
  intro X hX
  conv => rhs; rw [← List.map_id X]
  apply List.map_congr_left
  intro x hx
  rw [if_neg (hX x hx)]; rfl
 unfold updC
 rw [List.map_append, List.map_cons, id1 (fun x hx e => h3 x.k (List.mem_map.2 ⟨x, hx, rfl⟩) c.k (by simp) e), id1 (fun x hx e => (List.nodup_cons.1 h2).1 (List.mem_map.2 ⟨x, hx, e⟩)), if_pos rfl]
theorem cblks_app (A B : List Con) : cblks (A ++ B) = cblks A ++ cblks B := List.flatMap_append
theorem cblks_cons (c : Con) (B : List Con) : cblks (c :: B) = c.blks ++ cblks B := rfl

section
variable {base : BaseF} {S : FSt} {l : List Raw} {hf : HF} {c c' : Con} {p d b : List UInt8}
theorem FR.names (h : FR base S l hf) : (l.map (·.1)).Nodup := by have := srt_names h.tr.rel.srt; rwa [bare_names'] at this
theorem FR.con (h : FR base S l hf) (hm : (p, false, d) ∈ l) : ∃ c ∈ S.C, c.k = p ∧ c.d = d ∧ cget S.C p = some c := by
 obtain ⟨c, hc, h1, h2⟩ := (h.cl p d).1 hm
 exact ⟨c, hc, h1, h2, h1 ▸ cget_of h.cn hc⟩
theorem FR.row (h : FR base S l hf) (hc : c ∈ S.C) : (c.k, false, c.d) ∈ l := (h.cl _ _).2 ⟨c, hc, rfl, rfl⟩
theorem FR.bytes (h : FR base S l hf) (hm : (p, false, d) ∈ l) : fileB l p = d := by unfold fileB; rw [fileD_of h.names hm]; rfl
theorem FR.le (h : FR base S l hf) (hm : (p, false, d) ∈ l) : d.length ≤ 65536 ∧ d.length ≤ usedL l := by
 obtain ⟨c, hc, _, rfl, _⟩ := h.con hm
 exact ⟨(h.ok c hc).le, usedL_mem hm⟩
theorem FR.get (h : FR base S l hf) (p : List UInt8) : cget S.C p = none ∨ ∃ c ∈ S.C, c.k = p ∧ cget S.C p = some c := by
 cases hg : cget S.C p with
 | none => exact .inl rfl
 | some c => exact .inr ⟨c, (cget_mem hg).1, (cget_mem hg).2, rfl⟩
theorem FR.no (h : FR base S l hf) (hg : cget S.C p = none) : ∀ d, (p, false, d) ∉ l := fun d hm => by
 obtain ⟨c, _, _, _, h1⟩ := h.con hm
 rw [hg] at h1; cases h1
/-- Other bytes. -/
theorem FR.set (h : FR base S l hf) (hc : c ∈ S.C) (hk : c'.k = c.k) (hb : c'.b = c.b) (hOK : c'.OK base) (hu : usedL l + c'.d.length ≤ 262144 + c.d.length) :
  FR base { S with C := updC S.C c.k c' } (setD l c.k c'.d) hf ∧ usedL (setD l c.k c'.d) + c.d.length = usedL l + c'.d.length := by
 have hm := h.row hc
 obtain ⟨A, B, e1, e2⟩ := setD_split (b := c'.d) h.names hm
 obtain ⟨CA, CB, f1, f2⟩ := updC_split h.cn hc
 have hus : usedL (setD l c.k c'.d) + c.d.length = usedL l + c'.d.length := by
  rw [e2]
  conv => rhs; rw [e1]
  simp only [usedL_app, usedL_cons]
  omega
 have hmem : ∀ x, x ∈ updC S.C c.k c' ↔ (x ∈ S.C ∧ x.k ≠ c.k) ∨ x = c' := by
  intro x
  unfold updC
  rw [List.mem_map]
  constructor
  ·rintro ⟨y, hy, rfl⟩
   by_cases e : y.k = c.k
   ·rw [if_pos e]; exact .inr rfl
   ·rw [if_neg e]; exact .inl ⟨hy, e⟩
  ·rintro (⟨h1, h2⟩ | rfl)
   ·exact ⟨x, h1, if_neg h2⟩
   ·exact ⟨c, hc, if_pos rfl⟩
 refine ⟨⟨by rw [bare_set]; exact h.tr, ?_, ?_, ?_, ?_, ?_, by omega, h.hl, h.hh, ?_⟩, hus⟩
 ·have : cmap (updC S.C c.k c') = cmap S.C := by
   funext q
   unfold cmap cget
   rw [f2, f1, List.find?_append, List.find?_append, List.find?_cons, List.find?_cons, hk]
   cases CA.find? (fun c => decide (c.k = q)) with
   | some x => rfl
   | none =>
    simp only [Option.none_or]
    by_cases e : c.k = q
    ·simp [e, hb]
    ·simp [e]
  show MapF strV S.om (cmap (updC S.C c.k c'))
  rw [this]; exact h.mp
 ·have := h.cn
  rw [f1] at this
  show ((updC S.C c.k c').map (·.k)).Nodup
  rw [f2]
  simpa [hk] using this
 ·intro x hx
  rcases (hmem x).1 hx with ⟨h1, _⟩ | rfl
  ·exact h.ok x h1
  ·exact hOK
 ·intro q d
  rw [mem_setD]
  constructor
  ·rintro (⟨h1, h2⟩ | ⟨h1, h2, y, h3, h4, h5⟩)
   ·obtain ⟨x, hx, g1, g2⟩ := (h.cl q d).1 h1
    exact ⟨x, (hmem x).2 (.inl ⟨hx, fun e => h2 (g1.symm.trans e)⟩), g1, g2⟩
   ·simp only at h1 h2
    exact ⟨c', (hmem c').2 (.inr rfl), hk.trans h1.symm, h2.symm⟩
  ·rintro ⟨x, hx, rfl, rfl⟩
   rcases (hmem x).1 hx with ⟨h1, h2⟩ | rfl
   ·exact .inl ⟨h.row h1, h2⟩
   ·exact .inr ⟨hk, rfl, _, hm, rfl, rfl⟩
 ·intro z hz hd
  rcases mem_setD.1 hz with ⟨h1, _⟩ | ⟨h1, _, y, h3, h4, h5⟩
  ·exact h.dd z h1 hd
  ·have := names_inj h.names h3 hm h4
   rw [this] at h5
   rw [← h5] at hd; cases hd
 ·intro x hx h0
  obtain ⟨d, hd⟩ := h.ho x hx h0
  by_cases e : x.1 = c.k
  ·exact ⟨c'.d, mem_setD.2 (.inr ⟨e, rfl, _, hm, rfl, rfl⟩)⟩
  ·exact ⟨d, mem_setD.2 (.inl ⟨hd, e⟩)⟩
theorem hAt_set {hs : List Hd} {a i : Nat} {h' : Hd} (hl : hs.length = 128) (ha : a < 8) (hi : i < 16) : hAt (hs.set (16 * a + i) h') = setH (hAt hs) (a : Int) ((i : Int) + 1) (if h'.1 = [] then none else some h') := by
 funext who n
 unfold setH
 by_cases e : who = (a : Int) ∧ n = (i : Int) + 1
 ·obtain ⟨rfl, rfl⟩ := e
  rw [if_pos ⟨rfl, rfl⟩, hAt_at ha hi, List.getElem?_set_self (by omega)]
 ·rw [if_neg e]
  unfold hAt
  by_cases e2 : 0 ≤ who ∧ who < 8 ∧ 1 ≤ n ∧ n ≤ 16
  ·rw [if_pos e2, if_pos e2, List.getElem?_set_ne (fun h => e (by omega))]
  ·rw [if_neg e2, if_neg e2]
/-- A handle turns. -/
theorem FR.hset {a i : Nat} {h' : Hd} (h : FR base S l hf) (ha : a < 8) (hi : i < 16) (hm : h'.1 ≠ [] → ∃ d, (h'.1, false, d) ∈ l) : FR base { S with hs := S.hs.set (16 * a + i) h' } l (setH hf (a : Int) ((i : Int) + 1) (if h'.1 = [] then none else some h')) :=
 { h with
  hl := by simpa using h.hl
  hh := by rw [h.hh]; exact (hAt_set h.hl ha hi).symm
  ho := fun x hx h0 => by
   rcases List.mem_or_eq_of_mem_set hx with h1 | rfl
   ·exact h.ho x h1 h0
   ·exact hm h0 }
theorem FR.at_ {a i : Nat} {x : Hd} (h : FR base S l hf) (ha : a < 8) (hi : i < 16) (hq : S.hs[16 * a + i]? = some x) (h0 : x.1 ≠ []) : hf (a : Int) ((i : Int) + 1) = some x := by rw [h.hh]; exact hAt_some ha hi hq h0
/-- Nothing but the tree turned: what has no bytes came or went. -/
theorem FR.tree {E' : List Ent} {l' : List Raw} (h : FR base S l hf) (ht : TR E' (bareL l')) (hf' : ∀ p d, (p, false, d) ∈ l' ↔ (p, false, d) ∈ l) (hd : ∀ z ∈ l', z.2.1 = true → z.2.2 = []) (hu : usedL l' ≤ 262144) : FR base { S with E := E' } l' hf :=
 { h with
  tr := ht
  cl := fun p d => by rw [hf']; exact h.cl p d
  dd := hd
  us := hu
  ho := fun x hx h0 => let ⟨d, hm⟩ := h.ho x hx h0; ⟨d, (hf' _ _).2 hm⟩ }
/-- A file's blocks, apart from all others. -/
theorem con_out {bf u : Nat} {bv : Value} (hn : (S.C.map (·.k)).Nodup) (hc : c ∈ S.C) : ∃ R : List (Nat × Obj), (fsB bf bv u S).Perm (c.hd :: (c.D ++ R)) ∧ ∀ c' : Con, (c'.hd :: (c'.D ++ R)).Perm (fsB bf bv u { S with C := updC S.C c.k c' }) := by
 obtain ⟨A, B, h1, h2⟩ := updC_split hn hc
 refine ⟨(bf, .cells (fsC bv u S).toArray 90 (0, 0)) :: (S.bm, S.om) :: (tb S.bt S.E ++ (cblks A ++ cblks B)), ?_, fun c' => ?_⟩
 ·unfold fsB
  rw [h1, cblks_app, cblks_cons, Con.blks]
  exact perm_c fun p => by simp only [List.countP_append, List.countP_cons, List.countP_nil]; omega
 ·unfold fsB
  simp only [h2, cblks_app, cblks_cons, Con.blks]
  have e : fsC bv u { S with C := A ++ c' :: B } = fsC bv u S := rfl
  rw [e]
  exact perm_c fun p => by simp only [List.countP_append, List.countP_cons, List.countP_nil]; omega
def ownC (c : Con) (v : Value) (D : List (Nat × Obj)) (d : List UInt8) : Con := ⟨c.k, c.b, true, v, D, [], 0, d⟩
theorem sized_app {L : List (Nat × Obj)} {v : Value} {n : Nat} (h : OwL L v 1 ((d.take (min n d.length)).length + (n - min n d.length)) (byteCs (d.take (min n d.length)) ++ List.replicate (n - min n d.length) (.int .u8 0))) : BytesO L v (sizedB d n) := by
 have e1 : d.take (min n d.length) = d.take n := by
  rcases Nat.le_total n d.length with h | h
  ·rw [Nat.min_eq_left h]
  ·rw [Nat.min_eq_right h, List.take_of_length_le (Nat.le_refl _), List.take_of_length_le h]
 have e2 : n - min n d.length = n - d.length := by omega
 rw [e1, e2] at h
 unfold BytesO sizedB
 have e3 : byteCs (d.take n ++ List.replicate (n - d.length) 0) = byteCs (d.take n) ++ List.replicate (n - d.length) (.int .u8 0) := by
  simp [byteCs, byteV]
 rw [List.length_append, List.length_replicate, e3]
 exact h
theorem sizedB_len {n : Nat} : (sizedB d n).length = n := by unfold sizedB; rw [List.length_append, List.length_take, List.length_replicate]; omega
end
end Go.Proofs.YtigfbpbnohkokaaGreat

namespace Go.Fw
open Go Go.RowKit
set_option linter.unusedVariables false
set_option linter.unusedSimpArgs false

section
variable {P : Program} {w : World} {v : Value} {m n : Nat} {cs : List Value}
theorem run_append_z {t tx ty e bts k : Nat} {z zc : Value} {news : List Value} (ht : P.underlying t = some (.slice e)) (hm : szOf P e = some m) (hz : zeroOf P e = some z) (hzc : z.cells = #[zc]) (hm1 : m = 1) (hz1 : zc.oneCell' = true) (hnews : news = List.replicate k zc) (hk64 : P.underlying tx = some (.int .i64)) (hby : bytesOf' P e = some bts)
  (hv : OwS w v m n cs) (hcs : ∀ u ∈ cs, u.oneCell' = true) (hfit : (n + k) * bts ≤ 70368744177664) (hb : bts ≤ 1048576) (h63 : n + k ≤ 9223372036854775807) :
  ∃ v' w', (Builtin.append_ #[t, tx] ty #[v, .int .i64 (k : Int)]).run P w = .ok v' w' ∧ OwS w' v' m (n + k) (cs ++ news) ∧ (v = .slice none 0 0 ∧ k = 0 ∧ v' = v ∧ w' = w ∨ ApTo w v v' w') := by
 obtain ⟨i, hi, hi1, hi2, hi3⟩ : ∃ i, P.info? e = some i ∧ i.size = m ∧ i.zero = some z ∧ i.bytes = bts := by
  unfold szOf at hm; unfold zeroOf at hz; unfold bytesOf' at hby
  cases h : P.info? e with
  | none => simp [h] at hm
  | some i => simp [h] at hm hz hby; exact ⟨i, rfl, hm, hz, hby⟩
 subst hi1 hi3
 have hzm : z.cells.size = i.size := by rw [hzc, hm1]; rfl
 have hnl0 : news.length = k * i.size := by rw [hnews, hm1]; simp
 have hone : ∀ u ∈ news, u.oneCell' = true := by
  intro u hu
  rw [hnews] at hu
  rw [List.eq_of_mem_replicate hu]; exact hz1
 have hw : IntKind.i64.wrap (k : Int) = (k : Int) := by
  simp only [IntKind.wrap, IntKind.bits, IntKind.signed]
  have : (k : Int) ≤ 9223372036854775807 := by omega
  first | (simp; omega) | simp
 have hkb : ¬ (281474976710656 < (k : Int) * (i.bytes : Int)) := by
  have h1 : k * i.bytes ≤ (n + k) * i.bytes := Nat.mul_le_mul_right _ (by omega)
  have h2 : ((k * i.bytes : Nat) : Int) = (k : Int) * (i.bytes : Int) := by simp
  omega
 have hk0 : ¬ ((k : Int) < 0) := by omega
 have hzk : Builtin.zeroCells z.cells k = news.toArray := by
  rw [hzc, hnews]
  unfold Builtin.zeroCells
  apply Array.ext
  ·simp
  ·intro j h1 h2
   simp [Nat.mod_one]
 have grow : ∀ (base : Option Addr) (sCap : Nat), v = .slice base n sCap → sCap < n + k → (Builtin.firstCells i.size n (.slice base n sCap)).run P w.drew = .ok cs.toArray w.drew →
   ∃ v' w', (Builtin.append_ #[t, tx] ty #[v, .int .i64 (k : Int)]).run P w = .ok v' w' ∧ OwS w' v' i.size (n + k) (cs ++ news) ∧ (v = .slice none 0 0 ∧ k = 0 ∧ v' = v ∧ w' = w ∨ ApTo w v v' w') := by
  intro base sCap hve hlt hold
  have hfit' : Builtin.nextslicecap (n + k) sCap * i.bytes ≤ 281474976710656 := by
   have h1 := nextslicecap_le hlt
   have h2 : Builtin.nextslicecap (n + k) sCap * i.bytes ≤ (2 * (n + k) + 1024) * i.bytes := Nat.mul_le_mul_right _ h1
   have h3 : (2 * (n + k) + 1024) * i.bytes = 2 * ((n + k) * i.bytes) + 1024 * i.bytes := by rw [Nat.add_mul, Nat.mul_assoc]
   omega
  have hn : ¬ (n + k ≤ sCap) := by omega
  have h63' : ¬ (9223372036854775807 < ((n : Int) + (k : Int))) := by omega
  have h48' : ¬ (281474976710656 < Builtin.nextslicecap (n + k) sCap * i.bytes) := by omega
  have : (Builtin.append_ #[t, tx] ty #[.slice base n sCap, .int .i64 (k : Int)]).run P w =
    .ok (.slice (some ⟨w.heap.size, 0, none⟩) (n + k) (grownCap w (n + k) sCap e)) (w.drew.alloc (.cells ((cs ++ news).toArray ++ Builtin.zeroCells z.cells (grownCap w (n + k) sCap e - (n + k))) e)) := by
   have hsz : (sizeOf e).run P w = .ok i.size w := by simp [sizeOf, typeInfo, hi]
   unfold Builtin.append_
   by_cases h0 : k * i.size = 0
   ·have hn0 : news = [] := List.length_eq_zero_iff.1 (by rw [hnl0]; exact h0)
    simp [h0, hk0, hn0, run_underlying ht, run_underlying hk64, sizeOf, typeInfo, zeroValue, asInt, asIntOf, hi, hi2, hw, hkb, hn, h63', h48', Question.forced, hold, newRow, grownCap]
   ·simp [h0, hk0, hzk, run_underlying ht, run_underlying hk64, sizeOf, typeInfo, zeroValue, asInt, asIntOf, hi, hi2, hw, hkb, hn, h63', h48', Question.forced, hold, newRow, grownCap]
    congr 2
    apply Array.ext'
    simp [List.append_assoc]
  rw [hve, this]
  refine ⟨_, _, rfl, .inr ⟨w.heap.size, grownCap w (n + k) sCap e, (Builtin.zeroCells z.cells (grownCap w (n + k) sCap e - (n + k))).toList, e, rfl, ?_, ?_, ?_⟩, .inr (.inr ⟨rfl, _, rfl⟩)⟩
  ·show (w.heap.push _)[w.heap.size]? = _
   rw [Array.getElem?_push_size]
   congr 2
   apply Array.ext'
   simp
  ·have h1 : cs.length = n * i.size := by
    rcases hv with ⟨_, rfl, rfl⟩ | ⟨_, _, _, _, _, _, h, _⟩
    ·simp
    ·exact h
   rw [List.length_append, h1, hnl0, Nat.add_mul]
  ·have h1 : cs.length = n * i.size := by
    rcases hv with ⟨_, rfl, rfl⟩ | ⟨_, _, _, _, _, _, h, _⟩
    ·simp
    ·exact h
   have hcap : n + k ≤ grownCap w (n + k) sCap e := by simp [grownCap, Question.cut]
   simp only [List.length_append, h1, hnl0, Builtin.zeroCells, Array.length_toList, Array.size_map, Array.size_range, hzm]
   rw [← Nat.add_mul, ← Nat.add_mul]
   congr 1
   omega
 rcases hv with ⟨rfl, rfl, rfl⟩ | ⟨b, cap, rest, T, rfl, hbk, h1, h2⟩
 ·by_cases hk : k = 0
  ·subst hk
   have hn0 : news = [] := by have := hnl0; simpa using this
   subst hn0
   refine ⟨.slice none 0 0, w, ?_, .inl ⟨rfl, rfl, rfl⟩, .inl ⟨rfl, rfl, rfl, rfl⟩⟩
   have hw0 : IntKind.i64.wrap 0 = 0 := by decide
   simp [Builtin.append_, run_underlying ht, run_underlying hk64, sizeOf, typeInfo, hi, asInt, asIntOf, hw0]
  ·exact grow none 0 rfl (by omega) (by simp [Builtin.firstCells])
 ·by_cases hroom : n + k ≤ cap
  ·have hlen : (cs ++ rest).length = cs.length + rest.length := List.length_append
   have hnl := hnl0
   have hle : n * i.size + k * i.size ≤ cap * i.size := by rw [← Nat.add_mul]; exact Nat.mul_le_mul_right _ hroom
   have hst := run_storeCells (P := P) (b := b) (T := T) (fr := (0, 0)) (0 + n * i.size) news 0 (cs ++ rest) w hbk (by simp only [Nat.add_zero, Nat.zero_add]; omega) hone (by simp)
   simp only [Nat.add_zero, Nat.zero_add] at hst
   refine ⟨.slice (some ⟨b, 0, none⟩) (n + k) cap, w.putObj b (.cells ((cs ++ rest).take (n * i.size) ++ news ++ (cs ++ rest).drop (n * i.size + news.length)).toArray T (0, 0)), ?_, .inr ⟨b, cap, (cs ++ rest).drop (n * i.size + news.length), T, rfl, ?_, ?_, ?_⟩, .inr (.inl ⟨b, _, rfl, rfl, rfl⟩)⟩
   ·unfold Builtin.append_
    by_cases h0 : k * i.size = 0
    ·have hn0 : news = [] := List.length_eq_zero_iff.1 (by rw [hnl0]; exact h0)
     rw [hn0] at hst ⊢
     simp [h0, hk0, run_underlying ht, run_underlying hk64, sizeOf, typeInfo, zeroValue, hi, hi2, asInt, asIntOf, hw, hkb, hroom, Addr.add_lit]
     rw [hst]
     simp
    ·simp [h0, hk0, hzk, run_underlying ht, run_underlying hk64, sizeOf, typeInfo, zeroValue, hi, hi2, asInt, asIntOf, hw, hkb, hroom, Addr.add_lit, hst]
   ·have hlt : b < w.heap.size := (Array.getElem?_eq_some_iff.1 hbk).1
    rw [World.putObj_heap_same hlt]
    rw [← h1, List.take_left' rfl]
   ·rw [List.length_append, h1, hnl, Nat.add_mul]
   ·simp only [List.length_append, List.length_drop, h1, hnl] at h2 ⊢
    omega
  ·refine grow (some ⟨b, 0, none⟩) cap rfl (by omega) ?_
   refine run_firstCells_some w.drew i.size n ⟨b, 0, none⟩ n cap cs h1 (fun j u hu => ?_)
   have ea : (⟨b, 0, none⟩ : Addr).add j = ⟨b, 0 + j, none⟩ := by
    unfold Addr.add; split
    ·rename_i hj; subst hj; rfl
    ·rfl
   rw [ea]
   exact cell_of (w := w.drew) hbk (by rw [List.getElem?_append_left (by simpa using (List.getElem?_eq_some_iff.1 hu).1)]; simpa using hu)
end
theorem x_apZ {P : Program} {n : Nat} {ops : Array Oper} {B : Array Nat} {dr : Bool} {K : KT} {s : List (Nat × Bool)} {F : Env} {ds : List Deferred} {T : List (Nat × (World → Prop))} {w : World} {i : Nat}
  {d : Option Tmp} {ty : TypeId} {ps : String} {af : Array Edge} {gd : Option (Nat × Bool)} {x y : Operand} {t tx e bts k nn : Nat} {z0 zc sv : Value} {cs : List Value} {at0 : Array TypeId} {S : Nat → Prop} {w0 : World} {L L0 : List (Nat × Obj)} (ho : ops[i]? = some ⟨d, .call ⟨.builtin .append, #[x, y], at0⟩, ty, ps, af, gd⟩) (hg : guardV ops F gd = some true) (hd : dstOK n d = true)
  (hat : at0 = #[t, tx]) (ht : P.underlying t = some (.slice e)) (hm : szOf P e = some 1) (hz : zeroOf P e = some z0) (hzc : z0.cells = #[zc]) (hz1 : zc.oneCell' = true) (hk64 : P.underlying tx = some (.int .i64)) (hby : bytesOf' P e = some bts)
  (hx : ev? F x = some sv) (hy : ev? F y = some (.int .i64 (k : Int))) (hv : OwL L sv 1 nn cs) (M : St S w0 (L ++ L0) w) (hcs : ∀ u ∈ cs, u.oneCell' = true) (hfit : (nn + k) * bts ≤ 70368744177664) (hb : bts ≤ 1048576) (h63 : nn + k ≤ 9223372036854775807)
  (h : ∀ L' v' w1, OwL L' v' 1 (nn + k) (cs ++ List.replicate k zc) → St S w0 (L' ++ L0) w1 → pend B i T w1 ∧ Ex P n ops B dr K s (putE F d v') ds T w1) : Ex P n ops B dr K ((i, true) :: s) F ds T w := by
 obtain ⟨v', w1, hrun, h1, h2⟩ := run_append_z (ty := ty) ht hm hz hzc rfl hz1 rfl hk64 hby (hv.ows M (fun x hx => List.mem_append_left _ hx)) hcs hfit hb h63
 have fin : pend B i T w1 ∧ Ex P n ops B dr K s (putE F d v') ds T w1 → Ex P n ops B dr K ((i, true) :: s) F ds T w := fun ⟨g1, g2⟩ => by
  refine x_mv ho hg hd (v := v') (w1 := w1) (fun at_ hk => ?_) g1 g2
  subst hat
  simp only [execOp, resolve, List.map_toArray, List.map_cons, List.map_nil, hk.eval hx, hk.eval hy, Sem.run_bind, Sem.run_pure, Result.andThen_ok, invoke, builtin, hrun]
 have hnl : (List.replicate k zc).length = k * 1 := by simp
 generalize List.replicate k zc = news at h h1 h2 hnl
 refine fin ?_
 have key : ∀ b, blkOf v' = some b → ∃ cap rest T, v' = .slice (some ⟨b, 0, none⟩) (nn + k) cap ∧ w1.heap[b]? = some (.cells ((cs ++ news) ++ rest).toArray T (0, 0)) ∧ (cs ++ news).length = (nn + k) * 1 ∧ ((cs ++ news) ++ rest).length = cap * 1 := by
  intro b hb
  rcases h1 with ⟨rfl, _⟩ | ⟨b', cap, rest, T, rfl, g1, g2, g3⟩
  ·cases hb
  ·cases hb; exact ⟨cap, rest, T, rfl, g1, g2, g3⟩
 rcases h2 with ⟨rfl, rfl, rfl, rfl⟩ | ⟨b, o, g1, g2, rfl⟩ | ⟨g1, o, rfl⟩
 ·rcases hv with ⟨_, rfl, rfl, rfl⟩ | ⟨b, cap, rest, T, g, _⟩
  ·have h0 : news = [] := by have := hnl; simpa using this
   subst h0
   exact h [] _ _ OwL.nil M
  ·cases g
 ·obtain ⟨cap, rest, T, rfl, g3, g4, g5⟩ := key b g2
  rcases hv with ⟨rfl, _⟩ | ⟨b', cap', rest', T', rfl, rfl, g6, g7⟩
  ·cases g1
  ·cases g1
   have M1 := M.put 0 (b := b') (o0 := .cells (cs ++ rest').toArray T' (0, 0)) (o := o) rfl rfl
   have M1 : St S w0 ([(b', o)] ++ L0) (w.putObj b' o) := M1
   have g8 := M1.at_ 0 (b := b') (o := o) rfl
   rw [g3] at g8; cases g8
   exact h [(b', _)] _ _ (.inr ⟨b', cap, rest, T, rfl, rfl, g4, g5⟩) M1
 ·obtain ⟨cap, rest, T, rfl, g3, g4, g5⟩ := key _ g1
  have M1 := (M.drew rfl).acons (b := w.heap.size) rfl (o := o) rfl
  have g8 := M1.at_ 0 (b := w.heap.size) (o := o) rfl
  rw [g3] at g8; cases g8
  refine h [(w.heap.size, _)] _ _ (.inr ⟨_, cap, rest, T, rfl, rfl, g4, g5⟩) (M1.sub ?_)
  exact List.Sublist.cons_cons _ (List.sublist_append_right _ _)

end Go.Fw

namespace Go.Proofs.YtigfbpbnohkokaaGreat
open Go Go.Fw Go.RowKit Go.Proofs
set_option linter.unusedVariables false
set_option linter.unusedSimpArgs false
set_option maxRecDepth 100000
set_option maxHeartbeats 4000000

-- (*valise/overlay.FS).resize
theorem resize_c {w00 w0 : World} {bf u n : Nat} {bv : Value} {S : FSt} {c : Con} {base : BaseF} {Lb L : List (Nat × Obj)} (M : Sep w00 (fsB bf bv u S ++ (Lb ++ L)) w0) (hc : c ∈ S.C) (hOK : c.OK base) (hB : BaseC w00 Lb bv base) (hn : (S.C.map (·.k)).Nodup) (hl : S.hs.length = 128) (hu : u ≤ 262144) (hcu : c.d.length ≤ u) (hle : n ≤ 65536) : Ret Tryz.prog 101 #[ptr bf, ptr c.b, .int .i64 (n : Int)] w0 fun r w' => r = .bool (decide (u + n ≤ 262144 + c.d.length)) ∧ (¬ u + n ≤ 262144 + c.d.length → Sep w00 (fsB bf bv u S ++ (Lb ++ L)) w') ∧ (u + n ≤ 262144 + c.d.length → ∃ v D, BytesO D v (sizedB c.d n) ∧ Sep w00 (fsB bf bv (u + n - c.d.length) { S with C := updC S.C c.k (ownC c v D (sizedB c.d n)) } ++ (Lb ++ L)) w') := by
 have hcl := hOK.le
 refine Ret.of_W Tryz.func101 rfl Tryz.ntmps101 rfl ?_
 refine go 0 ?_
 refine W.regD (by kernel_rfl) #[0, 1, 3, 7, 0, 31, 0, 64, 255, 511] [(0, false), (1, false), (2, false), (3, false), (4, false), (5, false), (6, false), (7, true), (8, false), (9, false)] (by kernel_rfl) ?_
 intro K wD1 hK hwD1
 have M := M.drew hwD1
 refine go 0 ?_
 refine x_ld rfl rfl rfl Tryz.underlying3 rfl rfl (cell_of (fs_at M (fun y (hy : y ∈ fsB bf bv u S) => by simp [hy])) (fsC_used hl)) ?_
 refine go 0 ?_
 refine x_add ((u + n : Nat) : Int) rfl rfl rfl rfl rfl (by rw [wadd (by omega) (by omega)]; omega) ?_
 refine go 0 ?_
 refine x_call rfl rfl rfl rfl rfl en48 (length_c (con_at M (fun y (hy : y ∈ fsB bf bv u S) => by simp [hy]) hc) hOK) ?_
 rintro r_ w_ ⟨rfl, rfl⟩
 refine ⟨⟨(by first | exact .inr (cell_of (by first | exact M.at_ 0 rfl | exact M.at_ 1 rfl | exact M.at_ 2 rfl | exact M.at_ 3 rfl | exact M.at_ 4 rfl | exact M.at_ 5 rfl | exact M.at_ 6 rfl | exact M.at_ 7 rfl) rfl) | exact .inr (cell_of (fs_at M (fun y (hy : y ∈ fsB bf bv u S) => by simp [hy])) (fsC_used hl))), trivial⟩, ?_⟩
 refine x_sub _ rfl rfl rfl rfl rfl (wsub (by omega) (by omega)) ?_
 refine cnd 1 ?_ ?_
 ·intro hco1
  refine go 1 ?_
  exact ⟨by rw [decide_eq_false (by omega)], fun _ => M, fun h => absurd h (by omega)⟩
 ·intro hco1
  refine go 0 ?_
  refine W.regD (by kernel_rfl) #[0, 1, 3, 7, 0, 0, 32, 112, 255, 511, 1023, 2047] [(0, false), (1, false), (2, false), (3, false), (4, false), (5, false), (6, true), (7, false), (8, false), (9, false), (10, false), (11, true)] (by kernel_rfl) ?_
  intro K wD2 hK hwD2
  have M := M.drew hwD2
  refine go 0 ?_
  refine x_ld rfl rfl rfl Tryz.underlying3 rfl rfl (cell_of (fs_at M (fun y (hy : y ∈ fsB bf bv u S) => by simp [hy])) (fsC_used hl)) ?_
  refine go 0 ?_
  refine x_call rfl rfl rfl rfl rfl en48 (length_c (con_at M (fun y (hy : y ∈ fsB bf bv u S) => by simp [hy]) hc) hOK) ?_
  rintro r_ w_ ⟨rfl, rfl⟩
  refine ⟨⟨(by first | exact .inr (cell_of (by first | exact M.at_ 0 rfl | exact M.at_ 1 rfl | exact M.at_ 2 rfl | exact M.at_ 3 rfl | exact M.at_ 4 rfl | exact M.at_ 5 rfl | exact M.at_ 6 rfl | exact M.at_ 7 rfl) rfl) | exact .inr (cell_of (fs_at M (fun y (hy : y ∈ fsB bf bv u S) => by simp [hy])) (fsC_used hl))), trivial⟩, ?_⟩
  refine x_sub _ rfl rfl rfl rfl rfl (wsub (by omega) (by omega)) ?_
  refine x_add (((u + n - c.d.length) : Nat) : Int) rfl rfl rfl rfl rfl (by rw [wadd (by omega) (by omega)]; omega) ?_
  refine go 0 ?_
  refine x_st [_] (fsC bv (u + n - c.d.length) S) rfl rfl rfl sz3 rfl rfl rfl rfl (fs_at M (fun y (hy : y ∈ fsB bf bv u S) => by simp [hy])) rfl (by rw [fsC_len hl]; rfl) (fsC_use hl) ?_
  intro wst1 hwst1
  have M : Sep w00 (fsB bf bv (u + n - c.d.length) S ++ (Lb ++ L)) wst1 := M.put 0 rfl hwst1
  refine pnd ?_
  refine go 0 ?_
  refine x_call rfl rfl rfl rfl rfl en48 (length_c (con_at M (fun y (hy : y ∈ fsB bf bv (u + n - c.d.length) S) => by simp [hy]) hc) hOK) ?_
  rintro r_ w_ ⟨rfl, rfl⟩
  refine ⟨trivial, ?_⟩
  refine x_min ((min n c.d.length : Nat) : Int) rfl rfl rfl rfl rfl (by split <;> omega) ?_
  refine x_call rfl rfl rfl rfl rfl en47 (bytes_c (a := 0) M hc hOK hB (by omega)) ?_
  rintro v4 w4 ⟨L4, hb4, M⟩
  rw [List.drop_zero] at hb4
  have hlen0 : (c.d.take (min n c.d.length)).length = min n c.d.length := by rw [List.length_take]; omega
  obtain ⟨p4, c4, rfl⟩ := hb4.shape
  refine ⟨trivial, ?_⟩
  refine go 1 ?_
  refine x_sub ((n - min n c.d.length : Nat) : Int) rfl rfl rfl rfl rfl (by rw [wsub (by omega) (by omega)]; omega) ?_
  have M : Sep w00 (L4 ++ (fsB bf bv (u + n - c.d.length) S ++ (Lb ++ L))) w4 := M.perm (perm_c fun p => by simp only [List.countP_append, List.countP_cons, List.countP_nil]; omega)
  refine x_apZ rfl rfl rfl rfl Tryz.underlying27 sz5 ze5 rfl rfl Tryz.underlying3 by5 rfl rfl hb4 M (byteCs_one _) (by omega) (by decide) (by omega) ?_
  intro L5 v5 w5 how M
  have how := sized_app how
  obtain ⟨p5, c5, rfl⟩ := how.shape
  obtain ⟨R, hR1, hR2⟩ := con_out (bf := bf) (bv := bv) (u := (u + n - c.d.length)) hn hc
  have M : Sep w00 (c.hd :: (c.D ++ (L5 ++ (R ++ (Lb ++ L))))) w5 := (M.perm (List.perm_append_comm.trans ((hR1.append_right _).append_right _))).perm (perm_c fun p => by simp only [List.countP_append, List.countP_cons, List.countP_nil]; omega)
  have M : Sep w00 ((c.b, .cells c.cs.toArray 104 (0, 0)) :: (c.D ++ (L5 ++ (R ++ (Lb ++ L))))) w5 := M
  refine ⟨trivial, ?_⟩
  refine go 1 ?_
  refine x_st [_, _, _, _] _ rfl rfl rfl sz104 rfl rfl rfl rfl (by first | exact M.at_ 0 rfl | exact M.at_ 1 rfl | exact M.at_ 2 rfl | exact M.at_ 3 rfl | exact M.at_ 4 rfl | exact M.at_ 5 rfl | exact M.at_ 6 rfl | exact M.at_ 7 rfl) rfl rfl rfl ?_
  intro wst2 hwst2
  have M : Sep w00 ((ownC c (.slice p5 (sizedB c.d n).length c5) L5 (sizedB c.d n)).hd :: (c.D ++ (L5 ++ (R ++ (Lb ++ L))))) wst2 := M.put 0 rfl hwst2
  have M : Sep w00 (((ownC c (.slice p5 (sizedB c.d n).length c5) L5 (sizedB c.d n)).hd :: (L5 ++ R)) ++ (Lb ++ L)) wst2 := (St.dropL (L' := c.D) (M.perm (perm_c fun p => by simp only [List.countP_append, List.countP_cons, List.countP_nil]; omega)))
  refine ⟨trivial, ?_⟩
  refine go 1 ?_
  exact ⟨by rw [decide_eq_true (by omega)], fun h => absurd (by omega) h, fun _ => ⟨_, L5, how, M.perm ((hR2 (ownC c _ L5 _)).append_right _)⟩⟩

end Go.Proofs.YtigfbpbnohkokaaGreat

namespace Go.Proofs.YtigfbpbnohkokaaGreat
open Go Go.Fw Go.RowKit
set_option linter.unusedVariables false
set_option linter.unusedSimpArgs false

section
variable {S0 : Nat → Prop} {w0 w : World} {X F B L R : List (Nat × Obj)}
theorem St.fsi (h : St S0 w0 (X ++ (F ++ (B ++ L))) w) : St S0 w0 (F ++ (B ++ (X ++ L))) w := h.perm (perm_c fun p => by simp only [List.countP_append]; omega)
theorem St.fso0 (h : St S0 w0 (F ++ (B ++ (X ++ L))) w) : St S0 w0 (X ++ (F ++ (B ++ L))) w := h.perm (perm_c fun p => by simp only [List.countP_append]; omega)
theorem St.fso (h : St S0 w0 (F ++ (B ++ ((X ++ L) ++ R))) w) : St S0 w0 (X ++ (F ++ (B ++ (L ++ R)))) w := h.perm (perm_c fun p => by simp only [List.countP_append]; omega)
end
/-- What an answer is, and how all is behind it. -/
def PostS (base : BaseF) (bf : Nat) (bv : Value) (w00 : World) (Lb L : List (Nat × Obj)) (st : St3) (r : Value) (w' : World) : Prop :=
 ∃ S' Lr, RsO Lr r st.1 ∧ FR base S' st.2.1 st.2.2 ∧ Sep w00 (fsB bf bv (usedL st.2.1) S' ++ (Lb ++ (L ++ Lr))) w'
section
variable {base : BaseF} {bf : Nat} {bv : Value} {w00 w' : World} {Lb L : List (Nat × Obj)} {S : FSt} {l : List Raw} {hf : HF} {e : Int} {st : St3}
theorem post_bad (h : FR base S l hf) (M : Sep w00 (fsB bf bv (usedL l) S ++ (Lb ++ L)) w') (hs : st = (badS e, l, hf)) : PostS base bf bv w00 Lb L st (rsV (badS e) (.slice none 0 0) (.slice none 0 0)) w' := by
 subst hs
 exact ⟨S, [], RsO.bad, h, by simpa only [List.append_nil] using M⟩
theorem post_same {rs : RsS} (h : FR base S l hf) (M : Sep w00 (fsB bf bv (usedL l) S ++ (Lb ++ L)) w') (hs : st = (rs, l, hf)) (hd : rs.d = []) (hl : rs.l = []) : PostS base bf bv w00 Lb L st (rsV rs (.slice none 0 0) (.slice none 0 0)) w' := by
 subst hs
 exact ⟨S, [], ⟨_, _, [], [], rfl, rfl, by rw [hd]; exact OwL.nil, by rw [hl]; exact OwL.nil⟩, h, by simpa only [List.append_nil] using M⟩
end
theorem rd_eq {d : List UInt8} {a n : Nat} : (d.drop (min a d.length)).take (min n (d.length - min a d.length)) = (d.drop a).take n := by
 apply List.ext_getElem?
 intro k
 rw [List.getElem?_take, List.getElem?_drop, List.getElem?_take, List.getElem?_drop]
 by_cases h1 : k < n
 ·rw [if_pos h1]
  by_cases h2 : a + k < d.length
  ·rw [if_pos (by omega), Nat.min_eq_left (by omega)]
  ·rw [List.getElem?_eq_none (by omega : d.length ≤ a + k)]
   split
   ·rw [List.getElem?_eq_none (by omega)]
   ·rfl
 ·rw [if_neg h1, if_neg (by omega)]
theorem overB_len {b d : List UInt8} {a : Nat} (h : a + d.length ≤ b.length) : (overB b d a).length = b.length := by
 unfold overB
 rw [List.length_append, List.length_append, List.length_take, List.length_drop]; omega
theorem writeB_len {b d : List UInt8} {a : Nat} : (writeB b d a).length = max b.length (a + d.length) := by
 unfold writeB
 rw [overB_len (by rw [sizedB_len]; omega), sizedB_len]
theorem over_cells {s d : List UInt8} {rest : List Value} {a : Nat} (h : a + d.length ≤ s.length) : (byteCs s ++ rest).take a ++ byteCs d ++ (byteCs s ++ rest).drop (a + d.length) = byteCs (overB s d a) ++ rest := by
 have hl : (byteCs s).length = s.length := byteCs_len s
 rw [List.take_append_of_le_length (by omega), List.drop_append_of_le_length (by omega)]
 unfold overB byteCs
 simp [List.map_take, List.map_drop]
theorem mem_updC {C : List Con} {c c' : Con} (hc : c ∈ C) : c' ∈ updC C c.k c' := List.mem_map.2 ⟨c, hc, if_pos rfl⟩
theorem updC_updC {C : List Con} {p : List UInt8} {a b : Con} (ha : a.k = p) : updC (updC C p a) p b = updC C p b := by
 unfold updC
 rw [List.map_map]
 apply List.map_congr_left
 intro x _
 simp only [Function.comp]
 by_cases h : x.k = p
 ·rw [if_pos h, if_pos h, if_pos ha]
 ·simp only [if_neg h]
theorem updC_nd {C : List Con} {c c' : Con} (hn : (C.map (·.k)).Nodup) (hc : c ∈ C) (hk : c'.k = c.k) : ((updC C c.k c').map (·.k)).Nodup := by
 obtain ⟨A, B, h1, h2⟩ := updC_split hn hc
 rw [h2]
 rw [h1] at hn
 simpa [hk] using hn
theorem add_some {b j : Nat} : (some (⟨b, 0, none⟩ : Addr)).map (·.add (j * 1)) = some ⟨b, j, none⟩ := by
 simp only [Option.map_some, Addr.add, Nat.mul_one]
 split
 ·rename_i h; rw [h]
 ·simp
/-- A file's bytes are written over. -/
theorem con_put {S0 : Nat → Prop} {w00 w w1 : World} {X T : List (Nat × Obj)} {bf u b : Nat} {bv : Value} {S : FSt} {c : Con} {o0 o : Obj} (M : St S0 w00 (X ++ (fsB bf bv u S ++ T)) w) (hn : (S.C.map (·.k)).Nodup) (hc : c ∈ S.C) (hD : c.D = [(b, o0)]) (hw : w1 = w.putObj b o) (c' : Con) (h1 : c'.hd = c.hd) (h2 : c'.D = [(b, o)]) :
  St S0 w00 (X ++ (fsB bf bv u { S with C := updC S.C c.k c' } ++ T)) w1 := by
 obtain ⟨R, hR1, hR2⟩ := con_out (bf := bf) (bv := bv) (u := u) hn hc
 have hR2 := hR2 c'
 rw [hD] at hR1
 rw [h1, h2] at hR2
 have M : St S0 w00 ((b, o0) :: (c.hd :: (R ++ (X ++ T)))) w := M.perm (perm_c fun p => by
  have := hR1.countP_eq p
  simp only [List.countP_append, List.countP_cons, List.countP_nil] at this ⊢
  omega)
 have M : St S0 w00 ((b, o) :: (c.hd :: (R ++ (X ++ T)))) w1 := M.put 0 rfl hw
 exact M.perm (perm_c fun p => by
  have := hR2.countP_eq p
  simp only [List.countP_append, List.countP_cons, List.countP_nil] at this ⊢
  omega)
end Go.Proofs.YtigfbpbnohkokaaGreat

namespace Go.Proofs.YtigfbpbnohkokaaGreat
open Go Go.Fw Go.RowKit Go.Proofs
set_option linter.unusedVariables false
set_option linter.unusedSimpArgs false
set_option maxRecDepth 100000
set_option maxHeartbeats 4000000

-- (*valise/overlay.FS).read
theorem read_c {w00 w0 : World} {bf a i : Nat} {bv dv : Value} {S : FSt} {base : BaseF} {Lb L : List (Nat × Obj)} {l : List Raw} {hf : HF} {h : Hd} {o : OpS} (M : Sep w00 (fsB bf bv (usedL l) S ++ (Lb ++ L)) w0) (hR : FR base S l hf) (hB : BaseC w00 Lb bv base) (ha : a < 8) (hi : i < 16) (hq : S.hs[16 * a + i]? = some h) (h0 : h.1 ≠ [])
  (hdv : ∀ w X, Sep w00 X w → (∀ y ∈ L, y ∈ X) → BytesAt w dv o.d) : Ret Tryz.prog 68 #[ptr bf, .pointer (some ⟨bf, 3 + 2 * (16 * a + i), none⟩), .agg (opC o dv).toArray] w0 (PostS base bf bv w00 Lb L (readS l h.1 o, l, hf)) := by
 obtain ⟨d, hm⟩ := hR.ho h (List.mem_of_getElem? hq) h0
 obtain ⟨c, hc, hck, hcd, hget⟩ := hR.con hm
 have hOKc := hR.ok c hc
 have hcl := hOKc.le
 have hus := hR.us
 have hcu : c.d.length ≤ usedL l := by rw [hcd]; exact (hR.le hm).2
 have hfb : fileB l h.1 = c.d := by rw [hR.bytes hm, hcd]
 have hcm : cmap S.C h.1 = some (ptr c.b) := by unfold cmap; rw [hget]; rfl
 obtain ⟨pd, cd, rfl⟩ := (hdv _ _ M (fun y hy => by simp [hy])).shape
 refine Ret.of_W Tryz.func68 rfl Tryz.ntmps68 rfl ?_
 refine go 1 ?_
 intro _ _ M
 refine go 1 ?_
 intro _ _ M
 refine spl 2 12 ?_ ?_
 ·intro hsp1
  refine go 0 ?_
  refine x_call rfl rfl rfl rfl rfl en40 (fail_c) ?_
  rintro r_ wcall1 ⟨rfl, hncall1⟩
  have M := M.new hncall1
  refine ⟨trivial, ?_⟩
  refine go 1 ?_
  intro _ M
  refine go 1 ?_
  exact post_bad hR M.tail.tail (by unfold readS; rw [if_pos (.inl hsp1)])
 ·intro hsp1
  refine cnd 2 ?_ ?_
  ·intro hco2
   refine go 0 ?_
   refine x_call rfl rfl rfl rfl rfl en40 (fail_c) ?_
   rintro r_ wcall2 ⟨rfl, hncall2⟩
   have M := M.new hncall2
   refine ⟨trivial, ?_⟩
   refine go 1 ?_
   intro _ M
   refine go 1 ?_
   exact post_bad hR M.tail.tail (by unfold readS; rw [if_pos (.inr hco2)])
  ·intro hco2
   refine go 0 ?_
   refine W.regD (by kernel_rfl) #[0, 1, 3, 7, 0, 16, 48, 112, 255, 511] [(0, false), (1, false), (2, false), (3, false), (4, false), (5, false), (6, false), (7, false), (8, false), (9, false)] (by kernel_rfl) ?_
   intro K wD1 hK hwD1
   have M := M.drew hwD1
   refine go 0 ?_
   refine x_ld rfl rfl rfl Tryz.underlying84 rfl rfl (cell_of (fs_at M (fun y (hy : y ∈ fsB bf bv (usedL l) S) => by simp [hy])) rfl) ?_
   refine go 0 ?_
   refine x_ld rfl rfl rfl Tryz.underlying9 rfl rfl (cell_of (fs_at M (fun y (hy : y ∈ fsB bf bv (usedL l) S) => by simp [hy])) (fsC_h0 hq (by omega))) ?_
   refine x_lk1 (enc := strV) h.1 rfl rfl rfl (strKey Tryz.underlying9) Tryz.underlying84 ze102 rfl rfl ⟨S.om, cmap S.C, M.get (by simp [fsB]), hR.mp, rfl⟩ ?_
   rw [hcm, Option.getD_some]
   refine go 0 ?_
   refine W.regD (by kernel_rfl) #[0, 1, 0, 4, 15, 31] [(0, false), (1, false), (2, false), (3, true), (4, false), (5, false)] (by kernel_rfl) ?_
   intro K wD2 hK hwD2
   have M := M.drew hwD2
   refine go 1 ?_
   refine x_call rfl rfl rfl rfl rfl en48 (length_c (con_at M (fun y (hy : y ∈ fsB bf bv (usedL l) S) => by simp [hy]) hc) hOKc) ?_
   rintro r_ w_ ⟨rfl, rfl⟩
   refine pnd ?_
   refine x_min ((min o.a.toNat c.d.length : Nat) : Int) rfl rfl rfl rfl rfl (by split <;> omega) ?_
   refine go 0 ?_
   refine W.regD (by kernel_rfl) #[0, 0, 0, 0, 8, 0, 32, 0, 224, 504, 1023, 2047, 4095] [(0, false), (1, false), (2, false), (3, false), (4, false), (5, false), (7, false), (6, true), (8, false), (9, false), (10, true), (11, false), (12, true)] (by kernel_rfl) ?_
   intro K wD3 hK hwD3
   have M := M.drew hwD3
   refine go 1 ?_
   refine x_call rfl rfl rfl rfl rfl en48 (length_c (con_at M (fun y (hy : y ∈ fsB bf bv (usedL l) S) => by simp [hy]) hc) hOKc) ?_
   rintro r_ w_ ⟨rfl, rfl⟩
   refine pnd ?_
   refine x_sub ((c.d.length - min o.a.toNat c.d.length : Nat) : Int) rfl rfl rfl rfl rfl (by rw [wsub (by omega) (by omega)]; omega) ?_
   refine x_min ((min o.n.toNat (c.d.length - min o.a.toNat c.d.length) : Nat) : Int) rfl rfl rfl rfl rfl (by split <;> omega) ?_
   refine x_call rfl rfl rfl rfl rfl en47 (bytes_c (St.fsi (X := [_, _]) M) hc hOKc hB (by omega)) ?_
   rintro v5 w5 ⟨L5, hb5, M⟩
   have M := St.fso (X := [_, _]) M
   rw [rd_eq] at hb5
   obtain ⟨p5, c5, rfl⟩ := hb5.shape
   refine pnd ?_
   refine go 1 ?_
   refine x_st [_, _, _, _, _] _ rfl rfl rfl sz49 rfl rfl rfl rfl (by first | exact M.at_ 0 rfl | exact M.at_ 1 rfl | exact M.at_ 2 rfl | exact M.at_ 3 rfl | exact M.at_ 4 rfl | exact M.at_ 5 rfl | exact M.at_ 6 rfl | exact M.at_ 7 rfl) rfl rfl rfl ?_
   intro wst3 hwst3
   have M := by first | exact M.put 0 rfl hwst3 | exact M.put 1 rfl hwst3 | exact M.put 2 rfl hwst3 | exact M.put 3 rfl hwst3 | exact M.put 4 rfl hwst3 | exact M.put 5 rfl hwst3 | exact M.put 6 rfl hwst3 | exact M.put 7 rfl hwst3
   refine pnd ?_
   refine go 1 ?_
   refine ⟨S, L5, ?_, hR, M.tail.tail⟩
   unfold readS
   rw [if_neg (by omega), hfb]
   exact ⟨_, _, L5, [], rfl, (List.append_nil _).symm, hb5, OwL.nil⟩

-- (*valise/overlay.FS).shut
theorem shut_c {w00 w0 : World} {bf a i : Nat} {bv dv : Value} {S : FSt} {base : BaseF} {Lb L : List (Nat × Obj)} {l : List Raw} {hf : HF} {h : Hd} {o : OpS} (M : Sep w00 (fsB bf bv (usedL l) S ++ (Lb ++ L)) w0) (hR : FR base S l hf) (hB : BaseC w00 Lb bv base) (ha : a < 8) (hi : i < 16) (hq : S.hs[16 * a + i]? = some h) (h0 : h.1 ≠ [])
  (hdv : ∀ w X, Sep w00 X w → (∀ y ∈ L, y ∈ X) → BytesAt w dv o.d) : Ret Tryz.prog 71 #[ptr bf, .pointer (some ⟨bf, 3 + 2 * (16 * a + i), none⟩), .agg (opC o dv).toArray] w0 (PostS base bf bv w00 Lb L (badS 0, l, setH hf (a : Int) ((i : Int) + 1) none)) := by
 refine Ret.of_W Tryz.func71 rfl Tryz.ntmps71 rfl ?_
 refine go 1 ?_
 intro bbx1 _ M
 refine go 1 ?_
 intro bal1 _ M
 refine go 1 ?_
 refine x_st [_, _] (fsC bv (usedL l) { S with hs := S.hs.set (16 * a + i) ([], false) }) rfl rfl rfl sz86 rfl rfl rfl rfl (fs_at M (fun y (hy : y ∈ fsB bf bv (usedL l) S) => by simp [hy])) rfl (by rw [fsC_len hR.hl]; exact Nat.ble_eq_true_of_le (by simp only [List.length_cons, List.length_nil]; omega)) (fsC_put (h' := ([], false)) hq rfl) ?_
 intro wst1 hwst1
 have M : Sep w00 ((bal1, _) :: (bbx1, _) :: (fsB bf bv (usedL l) { S with hs := S.hs.set (16 * a + i) ([], false) } ++ (Lb ++ L))) wst1 := M.put 2 rfl hwst1
 refine ⟨trivial, ?_⟩
 refine go 2 ?_
 intro _ M
 refine go 1 ?_
 have hR2 := hR.hset (h' := ([], false)) ha hi (fun h => absurd rfl h)
 rw [if_pos rfl] at hR2
 exact post_bad hR2 M.tail.tail rfl

end Go.Proofs.YtigfbpbnohkokaaGreat

namespace Go.Proofs.YtigfbpbnohkokaaGreat
open Go Go.Fw Go.RowKit Go.Proofs
set_option linter.unusedVariables false
set_option linter.unusedSimpArgs false
set_option maxRecDepth 100000
set_option maxHeartbeats 4000000

-- (*valise/overlay.FS).truncate
theorem truncate_c {w00 w0 : World} {bf a i : Nat} {bv dv : Value} {S : FSt} {base : BaseF} {Lb L : List (Nat × Obj)} {l : List Raw} {hf : HF} {h : Hd} {o : OpS} (M : Sep w00 (fsB bf bv (usedL l) S ++ (Lb ++ L)) w0) (hR : FR base S l hf) (hB : BaseC w00 Lb bv base) (ha : a < 8) (hi : i < 16) (hq : S.hs[16 * a + i]? = some h) (h0 : h.1 ≠ [])
  (hdv : ∀ w X, Sep w00 X w → (∀ y ∈ L, y ∈ X) → BytesAt w dv o.d) : Ret Tryz.prog 70 #[ptr bf, .pointer (some ⟨bf, 3 + 2 * (16 * a + i), none⟩), .agg (opC o dv).toArray] w0 (PostS base bf bv w00 Lb L ((truncS l h.1 h.2 o).1, (truncS l h.1 h.2 o).2, hf)) := by
 obtain ⟨d, hm⟩ := hR.ho h (List.mem_of_getElem? hq) h0
 obtain ⟨c, hc, hck, hcd, hget⟩ := hR.con hm
 have hOKc := hR.ok c hc
 have hcl := hOKc.le
 have hus := hR.us
 have hcu : c.d.length ≤ usedL l := by rw [hcd]; exact (hR.le hm).2
 have hfb : fileB l h.1 = c.d := by rw [hR.bytes hm, hcd]
 have hcm : cmap S.C h.1 = some (ptr c.b) := by unfold cmap; rw [hget]; rfl
 obtain ⟨pd, cd, rfl⟩ := (hdv _ _ M (fun y hy => by simp [hy])).shape
 refine Ret.of_W Tryz.func70 rfl Tryz.ntmps70 rfl ?_
 refine go 1 ?_
 intro _ _ M
 refine go 1 ?_
 intro _ _ M
 refine go 0 ?_
 refine x_ld rfl rfl rfl Tryz.underlying4 rfl rfl (cell_of (fs_at M (fun y (hy : y ∈ fsB bf bv (usedL l) S) => by simp [hy])) (fsC_h1 hq (by omega))) ?_
 refine spl 1 13 ?_ ?_
 ·intro hsp1
  refine go 0 ?_
  refine x_call rfl rfl rfl rfl rfl en40 (fail_c) ?_
  rintro r_ wcall1 ⟨rfl, hncall1⟩
  have M := M.new hncall1
  refine ⟨trivial, ?_⟩
  refine go 1 ?_
  intro _ M
  refine go 1 ?_
  exact post_bad hR M.tail.tail (by unfold truncS sizeS; rw [if_pos (.inl (by simpa using hsp1))]; try rfl)
 ·intro hsp1
  refine cnd 2 ?_ ?_
  ·intro hco2
   refine go 0 ?_
   refine x_call rfl rfl rfl rfl rfl en40 (fail_c) ?_
   rintro r_ wcall2 ⟨rfl, hncall2⟩
   have M := M.new hncall2
   refine ⟨trivial, ?_⟩
   refine go 1 ?_
   intro _ M
   refine go 1 ?_
   exact post_bad hR M.tail.tail (by unfold truncS sizeS; rw [if_pos (.inr hco2)]; try rfl)
  ·intro hco2
   have hw2 : h.2 = true := by simpa using hsp1
   have hN0 : ¬ (h.2 = false ∨ o.n < 0) := fun e => e.elim (fun e => by rw [hw2] at e; cases e) (fun e => by omega)
   refine cnd 2 ?_ ?_
   ·intro hco3
    refine go 0 ?_
    refine x_call rfl rfl rfl rfl rfl en40 (fail_c) ?_
    rintro r_ wcall3 ⟨rfl, hncall3⟩
    have M := M.new hncall3
    refine ⟨trivial, ?_⟩
    refine go 1 ?_
    intro _ M
    refine go 1 ?_
    exact post_bad hR M.tail.tail (by unfold truncS sizeS; rw [if_neg hN0, if_pos (by omega)]; try rfl)
   ·intro hco3
    refine go 0 ?_
    refine W.regD (by kernel_rfl) #[0, 0, 2, 6, 14, 0, 32, 96, 224, 510, 0, 1024, 4095, 8191, 16383] [(0, false), (1, false), (2, false), (3, false), (4, false), (5, false), (6, false), (7, false), (8, false), (9, false), (10, false), (11, false), (12, true), (13, false), (14, false)] (by kernel_rfl) ?_
    intro K wD1 hK hwD1
    have M := M.drew hwD1
    refine go 0 ?_
    refine x_ld rfl rfl rfl Tryz.underlying84 rfl rfl (cell_of (fs_at M (fun y (hy : y ∈ fsB bf bv (usedL l) S) => by simp [hy])) rfl) ?_
    refine go 0 ?_
    refine x_ld rfl rfl rfl Tryz.underlying9 rfl rfl (cell_of (fs_at M (fun y (hy : y ∈ fsB bf bv (usedL l) S) => by simp [hy])) (fsC_h0 hq (by omega))) ?_
    refine x_lk1 (enc := strV) h.1 rfl rfl rfl (strKey Tryz.underlying9) Tryz.underlying84 ze102 rfl rfl ⟨S.om, cmap S.C, M.get (by simp [fsB]), hR.mp, rfl⟩ ?_
    rw [hcm, Option.getD_some]
    refine go 1 ?_
    refine x_call rfl rfl rfl rfl rfl en101 (by have hc_ := resize_c (n := o.n.toNat) (St.fsi (X := [_, _]) M) hc hOKc hB hR.cn hR.hl hus hcu (by omega); rw [Int.toNat_of_nonneg (by omega)] at hc_; exact hc_) ?_
    rintro r_ w4 ⟨rfl, hno, hyes⟩
    refine pnd ?_
    refine cnd 1 ?_ ?_
    ·intro hco4
     have hN : ¬ usedL l + o.n.toNat ≤ 262144 + c.d.length := by simpa using hco4
     have M := St.fso0 (X := [_, _]) (hno hN)
     refine go 0 ?_
     refine x_call rfl rfl rfl rfl rfl en40 (fail_c) ?_
     rintro r_ wcall5 ⟨rfl, hncall5⟩
     have M := M.new hncall5
     refine ⟨trivial, ?_⟩
     refine go 1 ?_
     intro _ M
     refine go 1 ?_
     exact post_bad hR M.tail.tail (by unfold truncS sizeS; rw [if_neg hN0, if_neg (by omega), if_pos (by rw [hfb, sizedB_len]; omega)]; try rfl)
    ·intro hco4
     have hN : usedL l + o.n.toNat ≤ 262144 + c.d.length := by simpa using hco4
     obtain ⟨v6, D6, hb6, M⟩ := hyes hN
     have M := St.fso0 (X := [_, _]) M
     obtain ⟨hR6, hU6⟩ := hR.set (c' := ownC c v6 D6 (sizedB c.d o.n.toNat)) hc rfl rfl ⟨by show (sizedB c.d o.n.toNat).length ≤ 65536; rw [sizedB_len]; omega, fun _ => hb6, fun h => by cases h⟩ (by show usedL l + (sizedB c.d o.n.toNat).length ≤ _; rw [sizedB_len]; omega)
     have hU6 : usedL (setD l c.k (sizedB c.d o.n.toNat)) + c.d.length = usedL l + (sizedB c.d o.n.toNat).length := hU6
     rw [sizedB_len] at hU6
     have hu6 : usedL l + o.n.toNat - c.d.length = usedL (setD l c.k (sizedB c.d o.n.toNat)) := by omega
     rw [hu6] at M
     refine go 2 ?_
     intro _ M
     refine go 1 ?_
     have hst : ((truncS l h.1 h.2 o).1, (truncS l h.1 h.2 o).2, hf) = (badS 0, setD l c.k (sizedB c.d o.n.toNat), hf) := by unfold truncS sizeS; rw [if_neg hN0, if_neg (by omega), if_neg (by rw [hfb, sizedB_len]; omega), hfb, hck]
     rw [hst]
     exact post_bad hR6 M.tail.tail rfl

-- (*valise/overlay.FS).write
theorem write_c {w00 w0 : World} {bf a i : Nat} {bv dv : Value} {S : FSt} {base : BaseF} {Lb L : List (Nat × Obj)} {l : List Raw} {hf : HF} {h : Hd} {o : OpS} (M : Sep w00 (fsB bf bv (usedL l) S ++ (Lb ++ L)) w0) (hR : FR base S l hf) (hB : BaseC w00 Lb bv base) (ha : a < 8) (hi : i < 16) (hq : S.hs[16 * a + i]? = some h) (h0 : h.1 ≠ [])
  (hdv : ∀ w X, Sep w00 X w → (∀ y ∈ L, y ∈ X) → BytesAt w dv o.d) : Ret Tryz.prog 69 #[ptr bf, .pointer (some ⟨bf, 3 + 2 * (16 * a + i), none⟩), .agg (opC o dv).toArray] w0 (PostS base bf bv w00 Lb L ((writeS l h.1 h.2 o).1, (writeS l h.1 h.2 o).2, hf)) := by
 obtain ⟨d, hm⟩ := hR.ho h (List.mem_of_getElem? hq) h0
 obtain ⟨c, hc, hck, hcd, hget⟩ := hR.con hm
 have hOKc := hR.ok c hc
 have hcl := hOKc.le
 have hus := hR.us
 have hcu : c.d.length ≤ usedL l := by rw [hcd]; exact (hR.le hm).2
 have hfb : fileB l h.1 = c.d := by rw [hR.bytes hm, hcd]
 have hcm : cmap S.C h.1 = some (ptr c.b) := by unfold cmap; rw [hget]; rfl
 obtain ⟨pd, cd, rfl⟩ := (hdv _ _ M (fun y hy => by simp [hy])).shape
 refine Ret.of_W Tryz.func69 rfl Tryz.ntmps69 rfl ?_
 refine go 1 ?_
 intro _ _ M
 refine go 1 ?_
 intro _ _ M
 refine go 2 ?_
 refine x_ld rfl rfl rfl Tryz.underlying4 rfl rfl (cell_of (fs_at M (fun y (hy : y ∈ fsB bf bv (usedL l) S) => by simp [hy])) (fsC_h1 hq (by omega))) ?_
 refine spl 1 18 ?_ ?_
 ·intro hsp1
  refine go 0 ?_
  refine x_call rfl rfl rfl rfl rfl en40 (fail_c) ?_
  rintro r_ wcall1 ⟨rfl, hncall1⟩
  have M := M.new hncall1
  refine ⟨trivial, ?_⟩
  refine go 1 ?_
  intro _ M
  refine go 1 ?_
  exact post_bad hR M.tail.tail (by unfold writeS sizeS; rw [if_pos (.inl (by simpa using hsp1))]; try rfl)
 ·intro hsp1
  refine cnd 2 ?_ ?_
  ·intro hco2
   refine go 0 ?_
   refine x_call rfl rfl rfl rfl rfl en40 (fail_c) ?_
   rintro r_ wcall2 ⟨rfl, hncall2⟩
   have M := M.new hncall2
   refine ⟨trivial, ?_⟩
   refine go 1 ?_
   intro _ M
   refine go 1 ?_
   exact post_bad hR M.tail.tail (by unfold writeS sizeS; rw [if_pos (.inr hco2)]; try rfl)
  ·intro hco2
   have hw2 : h.2 = true := by simpa using hsp1
   have hN0 : ¬ (h.2 = false ∨ o.a < 0) := fun e => e.elim (fun e => by rw [hw2] at e; cases e) (fun e => by omega)
   refine cnd 1 ?_ ?_
   ·intro hco3
    refine go 2 ?_
    intro _ M
    refine go 1 ?_
    exact post_bad hR M.tail.tail (by unfold writeS sizeS; rw [if_neg hN0, if_pos (List.length_eq_zero_iff.1 (by omega))]; try rfl)
   ·intro hco3
    have hd0 : ¬ o.d = [] := fun e => hco3 (by rw [e]; try rfl)
    refine spl 1 31 ?_ ?_
    ·intro hsp2
     refine go 0 ?_
     refine x_call rfl rfl rfl rfl rfl en40 (fail_c) ?_
     rintro r_ wcall3 ⟨rfl, hncall3⟩
     have M := M.new hncall3
     refine ⟨trivial, ?_⟩
     refine go 1 ?_
     intro _ M
     refine go 1 ?_
     exact post_bad hR M.tail.tail (by unfold writeS sizeS; rw [if_neg hN0, if_neg hd0, if_pos (.inl (by omega))]; try rfl)
    ·intro hsp2
     refine go 1 ?_
     refine x_sub _ rfl rfl rfl rfl rfl (wsub (by omega) (by omega)) ?_
     refine cnd 1 ?_ ?_
     ·intro hco5
      refine go 0 ?_
      refine x_call rfl rfl rfl rfl rfl en40 (fail_c) ?_
      rintro r_ wcall4 ⟨rfl, hncall4⟩
      have M := M.new hncall4
      refine ⟨trivial, ?_⟩
      refine go 1 ?_
      intro _ M
      refine go 1 ?_
      exact post_bad hR M.tail.tail (by unfold writeS sizeS; rw [if_neg hN0, if_neg hd0, if_pos (.inr (by omega))]; try rfl)
     ·intro hco5
      have hN1 : ¬ (65536 < o.d.length ∨ 65536 - (o.d.length : Int) < o.a) := by omega
      have hd1 : 0 < o.d.length := List.length_pos_iff.2 hd0
      refine go 0 ?_
      refine W.regD (by kernel_rfl) #[0, 1, 3, 7, 0, 16, 48, 112, 255, 511] [(0, false), (1, false), (2, false), (3, false), (4, false), (5, false), (6, false), (7, false), (8, false), (9, false)] (by kernel_rfl) ?_
      intro K wD1 hK hwD1
      have M := M.drew hwD1
      refine go 0 ?_
      refine x_ld rfl rfl rfl Tryz.underlying84 rfl rfl (cell_of (fs_at M (fun y (hy : y ∈ fsB bf bv (usedL l) S) => by simp [hy])) rfl) ?_
      refine go 0 ?_
      refine x_ld rfl rfl rfl Tryz.underlying9 rfl rfl (cell_of (fs_at M (fun y (hy : y ∈ fsB bf bv (usedL l) S) => by simp [hy])) (fsC_h0 hq (by omega))) ?_
      refine x_lk1 (enc := strV) h.1 rfl rfl rfl (strKey Tryz.underlying9) Tryz.underlying84 ze102 rfl rfl ⟨S.om, cmap S.C, M.get (by simp [fsB]), hR.mp, rfl⟩ ?_
      rw [hcm, Option.getD_some]
      refine go 0 ?_
      refine W.regD (by kernel_rfl) #[0, 0, 0, 4, 0, 16, 0, 112, 252, 511, 1023] [(0, false), (1, false), (2, false), (4, false), (5, false), (6, false), (7, false), (3, true), (8, false), (9, true), (10, false)] (by kernel_rfl) ?_
      intro K wD2 hK hwD2
      have M := M.drew hwD2
      refine go 1 ?_
      refine x_add ((o.a.toNat + o.d.length : Nat) : Int) rfl rfl rfl rfl rfl (by rw [wadd (by omega) (by omega)]; omega) ?_
      refine x_call rfl rfl rfl rfl rfl en48 (length_c (con_at M (fun y (hy : y ∈ fsB bf bv (usedL l) S) => by simp [hy]) hc) hOKc) ?_
      rintro r_ w_ ⟨rfl, rfl⟩
      refine pnd ?_
      refine x_max (((max c.d.length (o.a.toNat + o.d.length)) : Nat) : Int) rfl rfl rfl rfl rfl (by split <;> omega) ?_
      refine x_call rfl rfl rfl rfl rfl en101 (resize_c (n := (max c.d.length (o.a.toNat + o.d.length))) (St.fsi (X := [_, _]) M) hc hOKc hB hR.cn hR.hl hus hcu (by omega)) ?_
      rintro r_ w6 ⟨rfl, hno, hyes⟩
      refine pnd ?_
      refine cnd 1 ?_ ?_
      ·intro hco6
       have hN : ¬ usedL l + (max c.d.length (o.a.toNat + o.d.length)) ≤ 262144 + c.d.length := by simpa using hco6
       have M := St.fso0 (X := [_, _]) (hno hN)
       refine go 0 ?_
       refine x_call rfl rfl rfl rfl rfl en40 (fail_c) ?_
       rintro r_ wcall7 ⟨rfl, hncall7⟩
       have M := M.new hncall7
       refine ⟨trivial, ?_⟩
       refine go 1 ?_
       intro _ M
       refine go 1 ?_
       exact post_bad hR M.tail.tail (by unfold writeS sizeS; rw [if_neg hN0, if_neg hd0, if_neg hN1, if_pos (by rw [hfb, writeB_len]; omega)]; try rfl)
      ·intro hco6
       have hN : usedL l + (max c.d.length (o.a.toNat + o.d.length)) ≤ 262144 + c.d.length := by simpa using hco6
       obtain ⟨v6, D6, hb6, M⟩ := hyes hN
       have M := St.fso0 (X := [_, _]) M
       have hsl := sizedB_len (d := c.d) (n := (max c.d.length (o.a.toNat + o.d.length)))
       rcases hb6 with ⟨_, hx, _⟩ | ⟨b6, cap6, rest6, T6, rfl, rfl, hlen6, hcap6⟩
       ·omega
       have hcp6 : (max c.d.length (o.a.toNat + o.d.length)) ≤ cap6 := by rw [List.length_append, byteCs_len, hsl] at hcap6; omega
       rw [hsl] at M
       refine go 0 ?_
       refine W.regD (by kernel_rfl) #[0, 1, 3, 7, 0, 16, 63, 0, 128, 511] [(0, false), (1, false), (2, false), (3, false), (4, false), (5, false), (6, false), (7, false), (8, false), (9, true)] (by kernel_rfl) ?_
       intro K wD3 hK hwD3
       have M := M.drew hwD3
       refine go 0 ?_
       refine x_ld rfl rfl rfl Tryz.underlying27 rfl rfl (cell_of (con_cs (c := (ownC c (.slice (some ⟨b6, 0, none⟩) (max c.d.length (o.a.toNat + o.d.length)) cap6) [(b6, .cells (byteCs (sizedB c.d (max c.d.length (o.a.toNat + o.d.length))) ++ rest6).toArray T6 (0, 0))] (sizedB c.d (max c.d.length (o.a.toNat + o.d.length))))) M (fun y (hy : y ∈ fsB bf bv (usedL l + (max c.d.length (o.a.toNat + o.d.length)) - c.d.length) { S with C := updC S.C c.k (ownC c (.slice (some ⟨b6, 0, none⟩) (max c.d.length (o.a.toNat + o.d.length)) cap6) [(b6, .cells (byteCs (sizedB c.d (max c.d.length (o.a.toNat + o.d.length))) ++ rest6).toArray T6 (0, 0))] (sizedB c.d (max c.d.length (o.a.toNat + o.d.length)))) }) => by simp [hy]) (mem_updC hc)) rfl) ?_
       refine go 1 ?_
       refine x_sll o.a.toNat rfl rfl rfl Tryz.underlying27 sz5 rfl rfl (by omega) (by omega) ?_
       refine go 1 ?_
       have hcj : ¬ cap6 = o.a.toNat := by omega
       rw [if_neg hcj, add_some]
       have hdv3 := hdv _ _ M (fun y hy => by simp [hy])
       have hmem6 : (b6, Obj.cells (byteCs (sizedB c.d (max c.d.length (o.a.toNat + o.d.length))) ++ rest6).toArray T6 (0, 0)) ∈ fsB bf bv (usedL l + (max c.d.length (o.a.toNat + o.d.length)) - c.d.length) { S with C := updC S.C c.k (ownC c (.slice (some ⟨b6, 0, none⟩) (max c.d.length (o.a.toNat + o.d.length)) cap6) [(b6, .cells (byteCs (sizedB c.d (max c.d.length (o.a.toNat + o.d.length))) ++ rest6).toArray T6 (0, 0))] (sizedB c.d (max c.d.length (o.a.toNat + o.d.length)))) } := (List.mem_cons_of_mem _ (List.mem_cons_of_mem _ (List.mem_append_right _ (mem_cD (c := (ownC c (.slice (some ⟨b6, 0, none⟩) (max c.d.length (o.a.toNat + o.d.length)) cap6) [(b6, .cells (byteCs (sizedB c.d (max c.d.length (o.a.toNat + o.d.length))) ++ rest6).toArray T6 (0, 0))] (sizedB c.d (max c.d.length (o.a.toNat + o.d.length))))) (mem_updC hc) (List.mem_singleton.2 rfl)))))
       have hget6 := M.get (List.mem_append_right _ (List.mem_append_left _ hmem6))
       refine x_cpy rfl rfl rfl rfl Tryz.underlying27 sz5 rfl rfl hget6 hdv3 (byteCs_one _) hd1 (by omega) (by rw [List.length_append, byteCs_len, hsl]; omega) ?_
       intro wcp hwcp
       rw [over_cells (by rw [hsl]; omega)] at hwcp
       have hb7 : BytesO [(b6, .cells (byteCs (writeB c.d o.d o.a.toNat) ++ rest6).toArray T6 (0, 0))] (.slice (some ⟨b6, 0, none⟩) (max c.d.length (o.a.toNat + o.d.length)) cap6) (writeB c.d o.d o.a.toNat) := by
        refine .inr ⟨b6, cap6, rest6, T6, by rw [writeB_len], rfl, by rw [byteCs_len, Nat.mul_one], ?_⟩
        rw [List.length_append, byteCs_len, writeB_len]
        rw [List.length_append, byteCs_len, hsl] at hcap6
        exact hcap6
       have M := con_put (X := [_, _]) M (updC_nd hR.cn hc rfl) (mem_updC hc) rfl hwcp (ownC c (.slice (some ⟨b6, 0, none⟩) (max c.d.length (o.a.toNat + o.d.length)) cap6) [(b6, .cells (byteCs (writeB c.d o.d o.a.toNat) ++ rest6).toArray T6 (0, 0))] (writeB c.d o.d o.a.toNat)) rfl rfl
       rw [show updC (updC S.C c.k (ownC c (.slice (some ⟨b6, 0, none⟩) (max c.d.length (o.a.toNat + o.d.length)) cap6) [(b6, .cells (byteCs (sizedB c.d (max c.d.length (o.a.toNat + o.d.length))) ++ rest6).toArray T6 (0, 0))] (sizedB c.d (max c.d.length (o.a.toNat + o.d.length))))) (ownC c (.slice (some ⟨b6, 0, none⟩) (max c.d.length (o.a.toNat + o.d.length)) cap6) [(b6, .cells (byteCs (sizedB c.d (max c.d.length (o.a.toNat + o.d.length))) ++ rest6).toArray T6 (0, 0))] (sizedB c.d (max c.d.length (o.a.toNat + o.d.length)))).k (ownC c (.slice (some ⟨b6, 0, none⟩) (max c.d.length (o.a.toNat + o.d.length)) cap6) [(b6, .cells (byteCs (writeB c.d o.d o.a.toNat) ++ rest6).toArray T6 (0, 0))] (writeB c.d o.d o.a.toNat)) = updC S.C c.k (ownC c (.slice (some ⟨b6, 0, none⟩) (max c.d.length (o.a.toNat + o.d.length)) cap6) [(b6, .cells (byteCs (writeB c.d o.d o.a.toNat) ++ rest6).toArray T6 (0, 0))] (writeB c.d o.d o.a.toNat)) from updC_updC rfl] at M
       obtain ⟨hR7, hU7⟩ := hR.set (c' := (ownC c (.slice (some ⟨b6, 0, none⟩) (max c.d.length (o.a.toNat + o.d.length)) cap6) [(b6, .cells (byteCs (writeB c.d o.d o.a.toNat) ++ rest6).toArray T6 (0, 0))] (writeB c.d o.d o.a.toNat))) hc rfl rfl ⟨by show (writeB c.d o.d o.a.toNat).length ≤ 65536; rw [writeB_len]; omega, fun _ => hb7, fun h => by cases h⟩ (by show usedL l + (writeB c.d o.d o.a.toNat).length ≤ _; rw [writeB_len]; omega)
       have hU7 : usedL (setD l c.k (writeB c.d o.d o.a.toNat)) + c.d.length = usedL l + (writeB c.d o.d o.a.toNat).length := hU7
       rw [writeB_len] at hU7
       have hu7 : (usedL l + (max c.d.length (o.a.toNat + o.d.length)) - c.d.length) = usedL (setD l c.k (writeB c.d o.d o.a.toNat)) := by omega
       rw [hu7] at M
       refine pnd ?_
       refine go 2 ?_
       intro _ M
       refine go 1 ?_
       have hst : ((writeS l h.1 h.2 o).1, (writeS l h.1 h.2 o).2, hf) = (⟨0, 0, o.d.length, [], []⟩, setD l c.k (writeB c.d o.d o.a.toNat), hf) := by unfold writeS sizeS; rw [if_neg hN0, if_neg hd0, if_neg hN1, if_neg (by rw [hfb, writeB_len]; omega), hfb, hck]
       rw [hst]
       exact post_same hR7 M.tail.tail rfl rfl rfl

end Go.Proofs.YtigfbpbnohkokaaGreat
