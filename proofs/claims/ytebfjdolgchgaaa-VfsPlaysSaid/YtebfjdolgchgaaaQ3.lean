/-
  Texts that belong together, laid into one file: T13, T14, T15, FwL, T16, FwS, T17, T21, T22, U1, U2, FwM, FwN, T19, U3, U4, U6, FwO, U7, U8, U9, U10, U11, U12, U13, U14, U15, V19, V27, U17, U19, U20, U21, U22, U27, U28, U23, U24, U25, O28, O32, O33, V20, V21, V22.
-/
import Derived.Laws.IdiomRangeMap
import Derived.Laws.CopyRow
import Derived.Laws.IdiomCopy
import Derived.Test.YtebfjdolgchgaaaQ2
namespace Go.Proofs.Ytebfjdolgchgaaa
open Go Go.Fw Go.RowKit
set_option linter.unusedVariables false
set_option linter.unusedSimpArgs false

structure GI (g : Gf) : Prop where
 root : g [] = some (true, [])
 par : ∀ q n v, g (q ++ [n]) = some v → ∃ b, g q = some (true, b)
 ok : ∀ q v, g q = some v → POK q ∧ v.2.length ≤ 65536 ∧ (v.1 = true → v.2 = [])

theorem absE_ent {E : List Ent} {q : NP} {v : Bool × List UInt8} (h : absE E q = some v) : ∃ e, ent E q = some e ∧ e.dir = v.1 ∧ e.data = v.2 := by
 unfold absE at h
 cases he : ent E q with
 | none => rw [he] at h; cases h
 | some e => rw [he] at h; cases h; exact ⟨e, rfl, rfl, rfl⟩
theorem TI.gi {E : List Ent} (h : TI E) : GI (absE E) where
 root := by
  obtain ⟨e, he, hd⟩ := h.root
  rw [absE_at he, hd, h.dd e (ent_mem he).1 hd]
 par q n v hv := by
  obtain ⟨e, he, _⟩ := absE_ent hv
  obtain ⟨d, hd, hdd⟩ := h.par q n e he
  exact ⟨d.data, by rw [absE_at hd, hdd]⟩
 ok q v hv := by
  obtain ⟨e, he, h1, h2⟩ := absE_ent hv
  obtain ⟨hm, hp⟩ := ent_mem he
  have := h.ok e hm
  rw [hp] at this
  exact ⟨this, by rw [← h2]; exact (h.dat e hm).2, fun h3 => by rw [← h2]; exact h.dd e hm (by rw [h1]; exact h3)⟩

theorem joinS_pre (a b : NP) : (joinS a).length ≤ (joinS (a ++ b)).length := by
 by_cases hb : b = []
 ·subst hb; simp
 ·by_cases ha : a = []
  ·subst ha; simp [joinS]
  ·rw [joinS_app ha hb]; simp
theorem POK.pre {a b : NP} (h : POK (a ++ b)) : POK a :=
 ⟨by have := h.1; simp at this; omega, fun x hx => h.2.1 x (List.mem_append_left _ hx), Nat.le_trans (joinS_pre a b) h.2.2⟩
theorem POK.take {a : NP} (h : POK a) (j : Nat) : POK (a.take j) := by
 have h2 : POK (a.take j ++ a.drop j) := by rw [List.take_append_drop]; exact h
 exact h2.pre
theorem POK.sp {N : NP} (h : POK N) : splitE (joinS N) = 0 ∧ splitN (joinS N) = N := splitN_join h.1 h.2.1 h.2.2
theorem POK.inj {a b : NP} (ha : POK a) (hb : POK b) (h : joinS a = joinS b) : a = b := by rw [← ha.sp.2, h, hb.sp.2]
theorem sN_nil {p : List UInt8} (h : splitE p = 0) : splitN p = [] ↔ p = [] := by
 rcases splitN_facts h with ⟨h1, h2⟩ | ⟨h1, h2, _⟩
 ·exact ⟨fun _ => h1, fun _ => h2⟩
 ·rw [h2]; exact ⟨fun h3 => absurd h3 (splitS_ne p), fun h3 => absurd h3 h1⟩
theorem splitN_0 : splitN [] = [] := rfl

section
variable {g : Gf}
theorem GI.pre (h : GI g) : ∀ {t q : NP} {v : Bool × List UInt8}, g (q ++ t) = some v → t ≠ [] → ∃ b n, g q = some (true, b) ∧ g (q ++ [n]) ≠ none := by
 intro t
 induction t with
 | nil => intro q v _ h0; exact absurd rfl h0
 | cons n t ih =>
  intro q v hv _
  have hv2 : g ((q ++ [n]) ++ t) = some v := by simpa using hv
  by_cases ht : t = []
  ·subst ht
   rw [List.append_nil] at hv2
   obtain ⟨b, hb⟩ := h.par q n v hv2
   exact ⟨b, n, hb, by rw [hv2]; simp⟩
  ·obtain ⟨b, _, hb, _⟩ := ih hv2 ht
   obtain ⟨b2, hb2⟩ := h.par q n _ hb
   exact ⟨b2, n, hb2, by rw [hb]; simp⟩
end

abbrev ltR (x y : Raw) : Prop := compareP x.1 y.1 < 0
theorem cmpP_join {a b : NP} (ha : allOK a) (hb : allOK b) : compareP (joinS a) (joinS b) = compareL a b := by unfold compareP; rw [namesP_join ha, namesP_join hb]
theorem ltR_irr (x : Raw) : ¬ ltR x x := by unfold ltR; rw [cmpP_self]; omega
theorem ltR_tr {a b c : Raw} (h1 : ltR a b) (h2 : ltR b c) : ltR a c := by
 have := cmpP_trans (a := a.1) (b := b.1) (c := c.1) (by unfold ltR at h1; omega) (by unfold ltR at h2; omega)
 unfold ltR at *
 rcases this with h | ⟨h, _⟩ <;> omega
theorem ltR_or {a b : Raw} (h : a.1 ≠ b.1) : ltR a b ∨ ltR b a := by
 rcases cmpP_cases a.1 b.1 with h1 | ⟨_, h1⟩ | h1
 ·exact .inl (by unfold ltR; omega)
 ·exact absurd h1 h
 ·exact .inr (by unfold ltR; rw [cmpP_swap]; omega)
theorem srt_nodup {l : List Raw} (h : l.Pairwise ltR) : l.Nodup := h.imp fun h e => by subst e; exact ltR_irr _ h
theorem srt_ext {a b : List Raw} (ha : a.Pairwise ltR) (hb : b.Pairwise ltR) (h : ∀ x, x ∈ a ↔ x ∈ b) : a = b :=
 List.Perm.eq_of_pairwise (le := ltR) (fun a b _ _ h1 h2 => absurd (ltR_tr h1 h2) (ltR_irr _)) ha hb ((List.perm_ext_iff_of_nodup (srt_nodup ha) (srt_nodup hb)).2 h)
theorem srt_names {l : List Raw} (h : l.Pairwise ltR) : (l.map (·.1)).Nodup := by
 rw [List.Nodup, List.pairwise_map]
 exact h.imp fun {a b} h e => by unfold ltR at h; rw [e, cmpP_self] at h; omega

structure Rel (g : Gf) (l : List Raw) : Prop where
 srt : l.Pairwise ltR
 mem : ∀ x, x ∈ l ↔ ∃ N, N ≠ [] ∧ x.1 = joinS N ∧ g N = some x.2

section
variable {g : Gf} {l : List Raw} {x : Raw} {p : List UInt8}
theorem Rel.name (h : Rel g l) (hok : ∀ q v, g q = some v → POK q) (hx : x ∈ l) : splitE x.1 = 0 ∧ splitN x.1 ≠ [] ∧ g (splitN x.1) = some x.2 ∧ x.1 ≠ [] := by
 obtain ⟨N, hN, h1, h2⟩ := (h.mem x).1 hx
 have := (hok N _ h2).sp
 rw [← h1] at this
 exact ⟨this.1, by rw [this.2]; exact hN, by rw [this.2]; exact h2, fun e => by rw [e] at this; exact hN (this.2.symm.trans rfl)⟩
theorem Rel.find (h : Rel g l) (hok : ∀ q v, g q = some v → POK q) (hp : splitE p = 0) (h0 : p ≠ []) : l.find? (fun x => decide (x.1 = p)) = (g (splitN p)).map fun v => (p, v) := by
 cases hv : g (splitN p) with
 | none =>
  refine List.find?_eq_none.2 fun y hy => ?_
  intro e
  obtain ⟨_, _, h3, _⟩ := h.name hok hy
  simp at e
  rw [e, hv] at h3; cases h3
 | some v =>
  have hm : (p, v) ∈ l := (h.mem _).2 ⟨splitN p, fun e => h0 ((sN_nil hp).1 e), (joinS_splitN hp).symm, hv⟩
  cases hf : l.find? (fun x => decide (x.1 = p)) with
  | none => exact absurd (List.find?_eq_none.1 hf _ hm) (by simp)
  | some y =>
   have h1 := List.mem_of_find?_eq_some hf
   have h2 := List.find?_some hf
   simp at h2
   obtain ⟨_, _, h3, _⟩ := h.name hok h1
   rw [h2, hv] at h3
   cases h3
   show some y = some (p, y.2)
   rw [← h2]
theorem Rel.findF (hG : GI g) (h : Rel g l) : ∀ (r pre : NP) (f : Raw), g pre = some f.2 → POK (pre ++ r) →
  Go.Proofs.Ytebfjdolgchgaaa.findF l pre r f = if comeG g pre r = 0 then (if r = [] then f else (joinS (pre ++ r), (g (pre ++ r)).getD (false, [])), 0) else (fileZ, comeG g pre r)
 | [], pre, f, _, _ => rfl
 | n :: r, pre, f, hf, hP => by
  have hP2 : POK ((pre ++ [n]) ++ r) := by simpa using hP
  have hsp := hP2.pre.sp
  have hfd := h.find (fun q v hv => (hG.ok q v hv).1) hsp.1 (fun e => by
   have := hsp.2; rw [e] at this; exact absurd (this.symm.trans rfl : pre ++ [n] = []) (by simp))
  rw [hsp.2] at hfd
  obtain ⟨fn, fd, fb⟩ := f
  simp only at hf
  unfold Go.Proofs.Ytebfjdolgchgaaa.findF comeG
  rw [hf, hfd]
  cases fd with
  | false => simp
  | true =>
   cases hk : g (pre ++ [n]) with
   | none => simp
   | some v =>
    simp only [if_true, Option.map_some, Option.isNone_some, Bool.false_eq_true, if_false]
    rw [Rel.findF hG h r (pre ++ [n]) (joinS (pre ++ [n]), v) hk hP2]
    split
    ·rw [if_neg (by simp : n :: r ≠ [])]
     by_cases hr : r = []
     ·subst hr; rw [if_pos rfl, hk]; rfl
     ·rw [if_neg hr]; simp
    ·rfl
theorem Rel.findL (hG : GI g) (h : Rel g l) (p : List UInt8) : Go.Proofs.Ytebfjdolgchgaaa.findL l p = (findV g p, findG g p) := by
 unfold Go.Proofs.Ytebfjdolgchgaaa.findL findV
 by_cases hp : splitE p = 0
 ·rw [if_pos hp, findG_ok hp, h.findF hG (splitN p) [] ([], true, []) hG.root (POK_split hp)]
  split
  ·rename_i hc
   by_cases h0 : splitN p = []
   ·have := (sN_nil hp).1 h0
    subst this
    rw [if_pos h0, splitN_0, hG.root]; rfl
   ·rw [if_neg h0, List.nil_append, joinS_splitN hp, hc]
  ·rfl
 ·rw [if_neg hp, findG_bad hp, splitE_8 hp]; rfl
theorem Rel.home (hG : GI g) (h : Rel g l) (p : List UInt8) (root : Int) : homeL l p root = homeG g p root := by
 unfold homeL homeG
 by_cases hp : splitE p = 0
 ·rw [if_pos hp, if_pos hp]
  by_cases h0 : splitN p = []
  ·rw [if_pos h0, if_pos h0]
  ·rw [if_neg h0, if_neg h0, ← List.dropLast_eq_take]
   have hP : POK (splitN p).dropLast := by rw [List.dropLast_eq_take]; exact (POK_split hp).take _
   rw [h.findL hG]
   unfold findV
   rw [findG_ok hP.sp.1, hP.sp.2]
   by_cases hc : comeG g [] (splitN p).dropLast = 0
   ·simp only [hc, if_true]
   ·simp only [hc, if_false]
 ·rw [if_neg hp, if_neg hp, splitE_8 hp]
theorem atR_find (l : List Raw) (p : List UInt8) : 0 ≤ atR l p ↔ (l.find? (fun x => decide (x.1 = p))).isSome = true := by
 rcases atR_cases l p with ⟨j, x, h1, h2, h3, h4⟩ | ⟨h1, h2⟩
 ·rw [at_find h1 h2 h4, h3]; simp
 ·rw [at_find0 h1, h2]; simp
theorem Rel.at_ (h : Rel g l) (hok : ∀ q v, g q = some v → POK q) (hp : splitE p = 0) (h0 : p ≠ []) : 0 ≤ atR l p ↔ (g (splitN p)).isSome = true := by
 rw [atR_find, h.find hok hp h0]; simp

theorem withR_cons (y x : Raw) (l : List Raw) : withR (y :: l) x = if compareP y.1 x.1 < 0 then y :: withR l x else x :: y :: l := by
 unfold withR
 by_cases h : compareP y.1 x.1 < 0 <;> simp [h]
theorem withR_srt {x : Raw} : ∀ {l : List Raw}, l.Pairwise ltR → (∀ y ∈ l, y.1 ≠ x.1) → (withR l x).Pairwise ltR
 | [], _, _ => by simp [withR]
 | y :: l, h, hno => by
  rw [withR_cons]
  rw [List.pairwise_cons] at h
  split
  ·rename_i hlt
   refine List.pairwise_cons.2 ⟨fun z hz => ?_, withR_srt h.2 fun z hz => hno z (by simp [hz])⟩
   rcases withR_mem.1 hz with rfl | hz
   ·exact hlt
   ·exact h.1 z hz
  ·rename_i hlt
   have hxy : ltR x y := (ltR_or (hno y (by simp))).resolve_left hlt
   refine List.pairwise_cons.2 ⟨fun z hz => ?_, List.pairwise_cons.2 h⟩
   rcases List.mem_cons.1 hz with rfl | hz
   ·exact hxy
   ·exact ltR_tr hxy (h.1 z hz)
theorem Rel.with {N : NP} {v : Bool × List UInt8} (h : Rel g l) (hok : ∀ q v, g q = some v → POK q) (hN : POK N) (h0 : N ≠ []) (hv : g N = none) : Rel (setG g N (some v)) (withR l (joinS N, v)) where
 srt := withR_srt h.srt fun y hy e => by
  obtain ⟨h1, h2, h3, h4⟩ := h.name hok hy
  rw [e, hN.sp.2, hv] at h3
  cases h3
 mem x := by
  rw [withR_mem, h.mem]
  unfold setG
  constructor
  ·rintro (rfl | ⟨M, h1, h2, h3⟩)
   ·exact ⟨N, h0, rfl, by rw [if_pos rfl]⟩
   ·exact ⟨M, h1, h2, by rw [if_neg (fun e => by rw [e, hv] at h3; cases h3)]; exact h3⟩
  ·rintro ⟨M, h1, h2, h3⟩
   split at h3
   ·rename_i e
    subst e
    exact .inl (Prod.ext h2 (Option.some.inj h3).symm)
   ·exact .inr ⟨M, h1, h2, h3⟩
theorem Rel.erase {j : Nat} (h : Rel g l) (hok : ∀ q v, g q = some v → POK q) (hx : l[j]? = some x) : Rel (setG g (splitN x.1) none) (l.eraseIdx j) where
 srt := h.srt.sublist (List.eraseIdx_sublist l j)
 mem y := by
  have hxm := List.mem_of_getElem? hx
  obtain ⟨hx1, hx2, hx3, hx4⟩ := h.name hok hxm
  have key : y ∈ l.eraseIdx j ↔ y ∈ l ∧ y ≠ x := by
   rw [List.mem_eraseIdx_iff_getElem?]
   constructor
   ·rintro ⟨i, hi, hy⟩
    refine ⟨List.mem_of_getElem? hy, fun e => hi ?_⟩
    subst e
    have hn := srt_nodup h.srt
    obtain ⟨a1, a2⟩ := List.getElem?_eq_some_iff.1 hx
    obtain ⟨b1, b2⟩ := List.getElem?_eq_some_iff.1 hy
    exact (List.getElem_inj hn).1 (b2.trans a2.symm)
   ·rintro ⟨hy, hne⟩
    obtain ⟨i, hi⟩ := List.mem_iff_getElem?.1 hy
    exact ⟨i, fun e => hne (by rw [e, hx] at hi; exact (Option.some.inj hi).symm), hi⟩
  rw [key, h.mem]
  unfold setG
  constructor
  ·rintro ⟨⟨M, h1, h2, h3⟩, hne⟩
   refine ⟨M, h1, h2, ?_⟩
   rw [if_neg]
   ·exact h3
   ·intro e
    subst e
    rw [hx3] at h3
    exact hne (Prod.ext (h2.trans (joinS_splitN hx1)) (Option.some.inj h3).symm)
  ·rintro ⟨M, h1, h2, h3⟩
   split at h3
   ·cases h3
   ·rename_i hne
    refine ⟨⟨M, h1, h2, h3⟩, fun e => hne ?_⟩
    subst e
    rw [h2, (hok M _ h3).sp.2]

theorem home_ok {root : Int} (hr : root ≠ 0) (h : homeG g p root = 0) : splitE p = 0 ∧ splitN p ≠ [] ∧ p ≠ [] := by
 unfold homeG at h
 split at h
 ·rename_i hp
  split at h
  ·exact absurd h hr
  ·rename_i h0
   exact ⟨hp, h0, fun e => h0 ((sN_nil hp).2 e)⟩
 ·rename_i hp; exact absurd h hp

theorem Rel.mkdir (hG : GI g) (h : Rel g l) (p : List UInt8) : (mkdirL l p).2 = (mkdirG g (decide (128 ≤ l.length)) p).1 ∧ Rel (mkdirG g (decide (128 ≤ l.length)) p).2 (mkdirL l p).1 := by
 have hok : ∀ q v, g q = some v → POK q := fun q v hv => (hG.ok q v hv).1
 unfold mkdirL mkdirG
 rw [h.home hG]
 by_cases h1 : homeG g p 10 = 0
 ·obtain ⟨hp, h0, hp0⟩ := home_ok (by decide) h1
  rw [if_pos h1, if_pos h1]
  by_cases h2 : (g (splitN p)).isSome = true
  ·rw [if_pos h2, if_pos ((h.at_ hok hp hp0).2 h2)]; exact ⟨rfl, h⟩
  ·rw [if_neg h2, if_neg (fun e => h2 ((h.at_ hok hp hp0).1 e))]
   by_cases h3 : 128 ≤ l.length
   ·rw [if_pos h3, if_pos (decide_eq_true h3)]; exact ⟨rfl, h⟩
   ·rw [if_neg h3, if_neg (by simpa using h3)]
    refine ⟨rfl, ?_⟩
    have := h.with (v := (true, [])) hok (POK_split hp) h0 (by simpa using h2)
    rwa [joinS_splitN hp] at this
 ·rw [if_neg h1, if_neg h1]; exact ⟨rfl, h⟩
theorem Rel.put (hG : GI g) (h : Rel g l) (p b : List UInt8) : (putL l p b).2 = (putG g (decide (128 ≤ l.length)) p b).1 ∧ Rel (putG g (decide (128 ≤ l.length)) p b).2 (putL l p b).1 := by
 have hok : ∀ q v, g q = some v → POK q := fun q v hv => (hG.ok q v hv).1
 unfold putL putG
 rw [h.home hG]
 by_cases h1 : homeG g p 16 = 0
 ·obtain ⟨hp, h0, hp0⟩ := home_ok (by decide) h1
  rw [if_pos h1, if_pos h1, h.find hok hp hp0]
  cases hv : g (splitN p) with
  | none =>
   simp only [Option.map_none, Option.getD_none, Bool.false_eq_true, if_false, Option.isNone_none, true_and]
   by_cases h2 : 65536 < b.length
   ·rw [if_pos h2, if_pos h2]; exact ⟨rfl, h⟩
   ·rw [if_neg h2, if_neg h2]
    by_cases h3 : 128 ≤ l.length
    ·rw [if_pos h3, if_pos (decide_eq_true h3)]; exact ⟨rfl, h⟩
    ·rw [if_neg h3, if_neg (by simpa using h3)]
     refine ⟨rfl, ?_⟩
     have := h.with (v := (false, b)) hok (POK_split hp) h0 hv
     rwa [joinS_splitN hp] at this
  | some v =>
   simp only [Option.map_some, Option.getD_some, Option.isNone_some, Bool.false_eq_true, false_and, if_false]
   by_cases h2 : v.1 = true
   ·rw [if_pos h2, if_pos h2]; exact ⟨rfl, h⟩
   ·rw [if_neg h2, if_neg h2]
    by_cases h3 : 65536 < b.length
    ·rw [if_pos h3, if_pos h3]; exact ⟨rfl, h⟩
    ·rw [if_neg h3, if_neg h3]
     refine ⟨rfl, ?_⟩
     have hfd := h.find hok hp hp0
     rw [hv] at hfd
     obtain ⟨i, x, hx, hxp, hat, _⟩ := (atR_cases l p).resolve_right (fun hc => by rw [at_find0 hc.1] at hfd; cases hfd)
     rw [hat]
     have h4 := h.erase hok hx
     rw [hxp] at h4
     have h5 := h4.with (v := (false, b)) (fun q v hv => by
      unfold setG at hv
      split at hv
      ·cases hv
      ·exact hok q v hv) (POK_split hp) h0 (by unfold setG; rw [if_pos rfl])
     rw [joinS_splitN hp] at h5
     have h6 : setG (setG g (splitN p) none) (splitN p) (some (false, b)) = setG g (splitN p) (some (false, b)) := by
      funext r; unfold setG; split <;> rfl
     rw [h6] at h5
     exact h5
 ·rw [if_neg h1, if_neg h1]; exact ⟨rfl, h⟩
theorem busy_iff (hG : GI g) (h : Rel g l) (hp : splitE p = 0) : busyL l p = true ↔ ¬ emptyG g (splitN p) := by
 have hok : ∀ q v, g q = some v → POK q := fun q v hv => (hG.ok q v hv).1
 unfold busyL emptyG
 rw [List.any_eq_true]
 constructor
 ·rintro ⟨x, hx, h1⟩ hem
  obtain ⟨hx1, hx2, hx3, hx4⟩ := h.name hok hx
  simp only [Bool.and_eq_true, decide_eq_true_eq] at h1
  obtain ⟨h1, h2⟩ := h1
  rw [underP_eq] at h2
  simp only [Bool.and_eq_true, decide_eq_true_eq] at h2
  obtain ⟨t, ht⟩ := ipf.1 h2.2
  rw [ht] at hx3
  obtain ⟨_, n, _, hn⟩ := hG.pre hx3 (fun e => h1 (by
   subst e
   rw [List.append_nil] at ht
   rw [← joinS_splitN hx1, ht, joinS_splitN hp]))
  exact hn (hem n)
 ·intro hne
  obtain ⟨n, hn⟩ := Classical.not_forall.1 hne
  cases hv : g (splitN p ++ [n]) with
  | none => exact absurd hv hn
  | some v =>
   have hP := hok _ _ hv
   have hm : (joinS (splitN p ++ [n]), v) ∈ l := (h.mem _).2 ⟨_, by simp, rfl, hv⟩
   refine ⟨_, hm, ?_⟩
   simp only [Bool.and_eq_true, decide_eq_true_eq]
   refine ⟨fun e => ?_, ?_⟩
   ·have := hP.sp.2
    rw [e] at this
    have := congrArg List.length this
    simp at this
   ·rw [underP_eq, hP.sp.1, hP.sp.2, hp, ipf_app]; rfl
theorem Rel.remove (hG : GI g) (h : Rel g l) (p : List UInt8) : (removeL l p).2 = (removeG g p).1 ∧ Rel (removeG g p).2 (removeL l p).1 := by
 have hok : ∀ q v, g q = some v → POK q := fun q v hv => (hG.ok q v hv).1
 unfold removeL removeG
 rw [h.findL hG]
 by_cases h1 : findG g p = 0
 ·simp only [h1, if_true]
  have hp : splitE p = 0 := Classical.byContradiction fun hp => by rw [findG_bad hp] at h1; exact hp h1
  by_cases h2 : p = []
  ·rw [if_pos h2, if_pos (.inl h2)]; exact ⟨rfl, h⟩
  ·rw [if_neg h2]
   by_cases h3 : busyL l p = true
   ·rw [if_pos h3, if_pos (.inr ((busy_iff hG h hp).1 h3))]; exact ⟨rfl, h⟩
   ·rw [if_neg h3, if_neg (fun e => e.elim h2 (fun e => h3 ((busy_iff hG h hp).2 e)))]
    refine ⟨rfl, ?_⟩
    have hfl : (Go.Proofs.Ytebfjdolgchgaaa.findL l p).2 = 0 := by rw [h.findL hG]; exact h1
    obtain ⟨y, hy, hyp⟩ := findL_mem hfl h2
    obtain ⟨i, x, hx, hxp, hat, _⟩ := (atR_cases l p).resolve_right (fun hc => hc.1 y hy hyp)
    rw [hat]
    have h4 := h.erase hok hx
    rw [hxp] at h4
    exact h4
 ·simp only [h1, if_false]; exact ⟨trivial, h⟩
end
end Go.Proofs.Ytebfjdolgchgaaa

namespace Go.Proofs.Ytebfjdolgchgaaa
open Go Go.Fw Go.RowKit
set_option linter.unusedVariables false
set_option linter.unusedSimpArgs false

theorem foldW_srt {f : Raw → Raw} : ∀ {l A : List Raw}, A.Pairwise ltR → (l.map fun x => (f x).1).Nodup → (∀ x ∈ l, ∀ y ∈ A, y.1 ≠ (f x).1) → (l.foldl (fun a x => withR a (f x)) A).Pairwise ltR
 | [], A, hA, _, _ => hA
 | x :: l, A, hA, hn, hd => by
  simp only [List.map_cons, List.nodup_cons] at hn
  refine foldW_srt (l := l) (A := withR A (f x)) (withR_srt hA fun y hy => hd x (by simp) y hy) hn.2 fun z hz y hy => ?_
  rcases withR_mem.1 hy with rfl | hy
  ·exact fun e => hn.1 (e ▸ List.mem_map.2 ⟨z, hz, rfl⟩)
  ·exact hd z (by simp [hz]) y hy

section
variable {g : Gf} {l : List Raw} {f : Raw} {x y p : List UInt8}
theorem joinS_cat {a r : NP} (ha : a ≠ []) : joinS (a ++ r) = joinS a ++ (if r = [] then [] else 47 :: joinS r) := by
 by_cases hr : r = []
 ·subst hr; simp
 ·rw [if_neg hr, joinS_app ha hr]
theorem mvN_cases (hG : GI g) (h : Rel g l) (hx : splitE x = 0) (hy : splitE y = 0) (hx0 : splitN x ≠ []) (hy0 : splitN y ≠ []) (hf : f ∈ l) :
  (∃ r, splitN f.1 = splitN x ++ r ∧ underP f.1 x = true ∧ mvN x y f = (joinS (splitN y ++ r), f.2)) ∨ ((∀ r, splitN f.1 ≠ splitN x ++ r) ∧ underP f.1 x = false ∧ mvN x y f = f) := by
 obtain ⟨h1, h2, h3, h4⟩ := h.name (fun q v hv => (hG.ok q v hv).1) hf
 have hu : underP f.1 x = (splitN x).isPrefixOf (splitN f.1) := by rw [underP_eq, h1, hx]; simp
 cases hc : (splitN x).isPrefixOf (splitN f.1) with
 | true =>
  obtain ⟨r, hr⟩ := ipf.1 hc
  refine .inl ⟨r, hr, by rw [hu, hc], ?_⟩
  unfold mvN
  rw [hu, hc, if_pos rfl]
  have e1 : f.1 = joinS (splitN x) ++ (if r = [] then [] else 47 :: joinS r) := by rw [← joinS_cat hx0, ← hr, joinS_splitN h1]
  have e2 : f.1.drop x.length = if r = [] then [] else 47 :: joinS r := by
   rw [e1, joinS_splitN hx, List.drop_left' rfl]
  rw [e2, joinS_cat hy0, joinS_splitN hy]
 | false =>
  refine .inr ⟨fun r hr => ?_, by rw [hu, hc], ?_⟩
  ·rw [hr, ipf_app] at hc; cases hc
  ·unfold mvN; rw [hu, hc, if_neg (by simp)]
theorem bad_iff (hG : GI g) (h : Rel g l) (hx : splitE x = 0) (hy : splitE y = 0) (hx0 : splitN x ≠ []) (hy0 : splitN y ≠ []) : l.any (badN x y) = true ↔ ¬ fitsG g (splitN x) (splitN y) := by
 have hok : ∀ q v, g q = some v → POK q := fun q v hv => (hG.ok q v hv).1
 have hall : ∀ {r : NP} {v}, g (splitN x ++ r) = some v → allOK (splitN y ++ r) := fun {r v} hv z hz => by
  rcases List.mem_append.1 hz with hz | hz
  ·exact (POK_split hy).2.1 z hz
  ·exact (hok _ _ hv).2.1 z (List.mem_append_right _ hz)
 rw [List.any_eq_true]
 constructor
 ·rintro ⟨f, hf, hb⟩ hfit
  unfold badN at hb
  simp only [Bool.and_eq_true, decide_eq_true_eq] at hb
  rcases mvN_cases hG h hx hy hx0 hy0 hf with ⟨r, h1, h2, h3⟩ | ⟨_, h2, _⟩
  ·obtain ⟨_, _, g3, _⟩ := h.name hok hf
   rw [h1] at g3
   rw [h3] at hb
   exact hb.2 (hfit r (by rw [g3]; simp)).sp.1
  ·rw [h2] at hb; cases hb.1
 ·intro hn
  unfold fitsG at hn
  obtain ⟨r, hr⟩ := Classical.not_forall.1 hn
  obtain ⟨hr1, hr2⟩ := Classical.not_imp.1 hr
  cases hv : g (splitN x ++ r) with
  | none => exact absurd hv hr1
  | some v =>
   have hm : (joinS (splitN x ++ r), v) ∈ l := (h.mem _).2 ⟨_, by simp [hx0], rfl, hv⟩
   refine ⟨_, hm, ?_⟩
   unfold badN
   simp only [Bool.and_eq_true, decide_eq_true_eq]
   rcases mvN_cases hG h hx hy hx0 hy0 hm with ⟨r', h1, h2, h3⟩ | ⟨h1, _⟩
   ·refine ⟨h2, ?_⟩
    rw [h3]
    simp only at h1
    rw [(hok _ _ hv).sp.2] at h1
    have := List.append_cancel_left h1
    subst this
    exact fun e => hr2 ((POK_iff (hall hv)).1 e)
   ·exact absurd (hok _ _ hv).sp.2 (h1 r)
theorem mov_rel (hG : GI g) (h : Rel g l) (hx : splitE x = 0) (hy : splitE y = 0) (hx0 : splitN x ≠ []) (hy0 : splitN y ≠ []) (hnu : ¬ (splitN x).isPrefixOf (splitN y) = true) (hb : g (splitN y) = none) (hfit : fitsG g (splitN x) (splitN y)) :
  Rel (moveG g (splitN x) (splitN y)) (movL x y l) := by
 have hok : ∀ q v, g q = some v → POK q := fun q v hv => (hG.ok q v hv).1
 have hyr : ∀ r v, g (splitN y ++ r) ≠ some v := fun r v hv => by
  by_cases h0 : r = []
  ·subst h0; rw [List.append_nil, hb] at hv; cases hv
  ·obtain ⟨b, _, h1, _⟩ := hG.pre hv h0
   rw [hb] at h1; cases h1
 have hinj : ∀ f1 ∈ l, ∀ f2 ∈ l, (mvN x y f1).1 = (mvN x y f2).1 → f1.1 = f2.1 := by
  intro f1 h1 f2 h2 he
  obtain ⟨a1, a2, a3, a4⟩ := h.name hok h1
  obtain ⟨b1, b2, b3, b4⟩ := h.name hok h2
  rcases mvN_cases hG h hx hy hx0 hy0 h1 with ⟨r, c1, c2, c3⟩ | ⟨c1, c2, c3⟩ <;> rcases mvN_cases hG h hx hy hx0 hy0 h2 with ⟨s, d1, d2, d3⟩ | ⟨d1, d2, d3⟩
  ·rw [c3, d3] at he
   rw [c1] at a3; rw [d1] at b3
   have := POK.inj (hfit r (by rw [a3]; simp)) (hfit s (by rw [b3]; simp)) he
   have := List.append_cancel_left this
   subst this
   rw [← joinS_splitN a1, ← joinS_splitN b1, c1, d1]
  ·rw [c3, d3] at he
   rw [c1] at a3
   have hP := (hfit r (by rw [a3]; simp)).sp.2
   simp only at he
   rw [he] at hP
   rw [hP] at b3
   exact absurd b3 (hyr _ _)
  ·rw [c3, d3] at he
   rw [d1] at b3
   have hP := (hfit s (by rw [b3]; simp)).sp.2
   simp only at he
   rw [← he] at hP
   rw [hP] at a3
   exact absurd a3 (hyr _ _)
  ·rw [c3, d3] at he; exact he
 refine ⟨foldW_srt List.Pairwise.nil ?_ (by simp), fun z => ?_⟩
 ·rw [List.Nodup, List.pairwise_map]
  refine List.Pairwise.imp_of_mem (fun {a b} ha hb hlt he => ?_) h.srt
  have := hinj a ha b hb he
  unfold ltR at hlt
  rw [this, cmpP_self] at hlt
  omega
 ·unfold movL
  rw [foldW_mem]
  unfold moveG
  constructor
  ·rintro (hz | ⟨f, hf, rfl⟩)
   ·cases hz
   ·obtain ⟨a1, a2, a3, a4⟩ := h.name hok hf
    rcases mvN_cases hG h hx hy hx0 hy0 hf with ⟨r, c1, c2, c3⟩ | ⟨c1, c2, c3⟩
    ·rw [c3]
     refine ⟨splitN y ++ r, by simp [hy0], rfl, ?_⟩
     rw [if_pos (ipf_app _ _), List.drop_left' rfl, ← c1]
     exact a3
    ·rw [c3]
     refine ⟨splitN f.1, a2, (joinS_splitN a1).symm, ?_⟩
     rw [if_neg, if_neg]
     ·exact a3
     ·intro e
      obtain ⟨t, ht⟩ := ipf.1 e
      exact c1 t ht
     ·intro e
      obtain ⟨t, ht⟩ := ipf.1 e
      rw [ht] at a3
      exact hyr _ _ a3
  ·rintro ⟨N, h0, h1, h2⟩
   refine .inr ?_
   split at h2
   ·rename_i hp
    obtain ⟨t, rfl⟩ := ipf.1 hp
    rw [List.drop_left' rfl] at h2
    have hm : (joinS (splitN x ++ t), z.2) ∈ l := (h.mem _).2 ⟨_, by simp [hx0], rfl, h2⟩
    refine ⟨_, hm, ?_⟩
    rcases mvN_cases hG h hx hy hx0 hy0 hm with ⟨r, c1, c2, c3⟩ | ⟨c1, c2, c3⟩
    ·simp only at c1
     rw [(hok _ _ h2).sp.2] at c1
     have := List.append_cancel_left c1
     subst this
     rw [c3]
     exact Prod.ext h1 rfl
    ·exact absurd (hok _ _ h2).sp.2 (c1 t)
   ·split at h2
    ·cases h2
    ·rename_i hp1 hp2
     have hm : z ∈ l := (h.mem _).2 ⟨N, h0, h1, h2⟩
     refine ⟨z, hm, ?_⟩
     rcases mvN_cases hG h hx hy hx0 hy0 hm with ⟨r, c1, c2, c3⟩ | ⟨c1, c2, c3⟩
     ·rw [h1, (hok _ _ h2).sp.2] at c1
      rw [c1, ipf_app] at hp2
      exact absurd rfl hp2
     ·exact c3.symm
theorem Rel.rename (hG : GI g) (h : Rel g l) (x y : List UInt8) : (renameL l x y).2 = (renameG g x y).1 ∧ Rel (renameG g x y).2 (renameL l x y).1 := by
 have hok : ∀ q v, g q = some v → POK q := fun q v hv => (hG.ok q v hv).1
 unfold renameL renameG
 rw [h.findL hG, h.home hG]
 by_cases h1 : findG g x = 0
 ·simp only [h1, if_true]
  have hx : splitE x = 0 := Classical.byContradiction fun hp => by rw [findG_bad hp] at h1; exact hp h1
  by_cases h2 : x = []
  ·rw [if_pos h2, if_pos h2]; exact ⟨rfl, h⟩
  ·rw [if_neg h2, if_neg h2]
   have hx0 : splitN x ≠ [] := fun e => h2 ((sN_nil hx).1 e)
   by_cases h3 : homeG g y 10 = 0
   ·obtain ⟨hy, hy0, hy1⟩ := home_ok (by decide) h3
    rw [if_pos h3, if_pos h3]
    by_cases h4 : x = y
    ·rw [if_pos h4, if_pos h4]; exact ⟨rfl, h⟩
    ·rw [if_neg h4, if_neg h4]
     by_cases h5 : underP y x = true
     ·rw [if_pos h5, if_pos h5]; exact ⟨rfl, h⟩
     ·rw [if_neg h5, if_neg h5]
      by_cases h6 : (g (splitN y)).isSome = true
      ·rw [if_pos h6, if_pos ((h.at_ hok hy hy1).2 h6)]; exact ⟨rfl, h⟩
      ·rw [if_neg h6, if_neg (fun e => h6 ((h.at_ hok hy hy1).1 e))]
       have hb := bad_iff hG h hx hy hx0 hy0
       by_cases h7 : fitsG g (splitN x) (splitN y)
       ·rw [if_neg (fun e => hb.1 e h7), if_neg (fun e => e h7)]
        exact ⟨rfl, mov_rel hG h hx hy hx0 hy0 (not_under hx hy (by simpa using h5)) (by simpa using h6) h7⟩
       ·rw [if_pos (hb.2 h7), if_pos h7]; exact ⟨rfl, h⟩
   ·rw [if_neg h3, if_neg h3]; exact ⟨rfl, h⟩
 ·simp only [h1, if_false]; exact ⟨trivial, h⟩
end

section
variable {E : List Ent} {l : List Raw}
def filesE (E : List Ent) : List Raw := (dfs E 9 []).map Ent.raw
theorem filesE_rel (hT : TI E) : Rel (absE E) (filesE E) where
 srt := by
  unfold filesE
  rw [List.pairwise_map]
  refine List.Pairwise.imp_of_mem (fun {a b} ha hb h => ?_) (dfs_sorted hT (by simp))
  obtain ⟨t, _, h1⟩ := (mem_dfs hT (by simp)).1 ha
  obtain ⟨u, _, h2⟩ := (mem_dfs hT (by simp)).1 hb
  unfold ltR Ent.raw
  rw [cmpP_join (hT.ok a (ent_mem h1).1).2.1 (hT.ok b (ent_mem h2).1).2.1]
  exact h
 mem x := by
  unfold filesE
  rw [List.mem_map]
  constructor
  ·rintro ⟨e, he, rfl⟩
   obtain ⟨t, h0, h1⟩ := (mem_dfs hT (by simp)).1 he
   rw [List.nil_append] at h1
   exact ⟨t, h0, by rw [← (ent_mem h1).2]; rfl, by rw [absE_at h1]; rfl⟩
  ·rintro ⟨N, h0, h1, h2⟩
   obtain ⟨e, he, h3, h4⟩ := absE_ent h2
   refine ⟨e, (mem_dfs hT (by simp)).2 ⟨N, h0, by simpa using he⟩, ?_⟩
   unfold Ent.raw
   rw [(ent_mem he).2]
   exact Prod.ext h1.symm (Prod.ext h3 h4)
theorem rel_ext {g : Gf} {a b : List Raw} (ha : Rel g a) (hb : Rel g b) : a = b := srt_ext ha.srt hb.srt fun x => by rw [ha.mem, hb.mem]
theorem filesE_eq (hT : TI E) (h : Rel (absE E) l) : filesE E = l := rel_ext (filesE_rel hT) h
theorem filesE_len (hT : TI E) : (filesE E).length + 1 = E.length := by
 obtain ⟨r, hr, _⟩ := hT.root
 have hs := dfs_sorted (E := E) (fuel := 9) (q := []) hT (by simp)
 have hnd : (dfs E 9 []).Nodup := hs.imp fun h e => by subst e; exact ltP_irr _ h
 have h1 : (r :: dfs E 9 []).length ≤ E.length := by
  refine nodup_le (List.nodup_cons.2 ⟨fun h => ?_, hnd⟩) fun e he => ?_
  ·obtain ⟨t, h0, h1⟩ := (mem_dfs hT (by simp)).1 h
   exact h0 (by rw [List.nil_append] at h1; rw [← (ent_mem h1).2, (ent_mem hr).2])
  ·rcases List.mem_cons.1 he with rfl | he
   ·exact (ent_mem hr).1
   ·obtain ⟨t, _, h1⟩ := (mem_dfs hT (by simp)).1 he
    exact (ent_mem h1).1
 have h2 : E.length ≤ (r :: dfs E 9 []).length := by
  refine nodup_le ((List.pairwise_map.1 hT.nd).imp fun {a b} h e => h (by rw [e])) fun e he => ?_
  by_cases h0 : e.p = []
  ·have := hT.of he
   rw [h0, hr] at this
   cases this; simp
  ·exact List.mem_cons_of_mem _ ((mem_dfs hT (by simp)).2 ⟨e.p, h0, by simpa using hT.of he⟩)
 unfold filesE
 simp only [List.length_map, List.length_cons] at h1 h2 ⊢
 omega
theorem parent_row {N : NP} {n : List UInt8} (h : POK (N ++ [n])) : parentP (joinS (N ++ [n])) = (joinS N, n, 0) := by
 have hsp := h.sp
 have h0 : joinS (N ++ [n]) ≠ [] := fun e => by
  have := hsp.2; rw [e] at this; exact absurd (this.symm.trans rfl : N ++ [n] = []) (by simp)
 refine parentP_some h0 hsp.1 ?_
 rw [← namesP_some h0, namesP_splitN hsp.1, hsp.2]
theorem namesL_eq {g : Gf} {p : List UInt8} (hT : TI E) (h : Rel (absE E) l) (hp : splitE p = 0) : namesL l p = ksE E (splitN p) := by
 have hG := hT.gi
 have hok : ∀ q v, absE E q = some v → POK q := fun q v hv => (hG.ok q v hv).1
 have hrow : ∀ x ∈ l, ∃ N n, splitN x.1 = N ++ [n] ∧ parentP x.1 = (joinS N, n, 0) ∧ POK (N ++ [n]) ∧ x.1 = joinS (N ++ [n]) := fun x hx => by
  obtain ⟨h1, h2, h3, h4⟩ := h.name hok hx
  refine ⟨(splitN x.1).dropLast, (splitN x.1).getLast h2, (List.dropLast_concat_getLast h2).symm, ?_, ?_, ?_⟩
  ·have := parent_row (N := (splitN x.1).dropLast) (n := (splitN x.1).getLast h2) (by rw [List.dropLast_concat_getLast h2]; exact POK_split h1)
   rwa [List.dropLast_concat_getLast h2, joinS_splitN h1] at this
  ·rw [List.dropLast_concat_getLast h2]; exact POK_split h1
  ·rw [List.dropLast_concat_getLast h2, joinS_splitN h1]
 refine strict_ext ?_ (ksE_strict hT) fun n => ?_
 ·unfold namesL
  rw [List.pairwise_map, List.pairwise_filter]
  refine List.Pairwise.imp_of_mem (fun {a b} ha hb hlt h1 h2 => ?_) h.srt
  obtain ⟨N, n, _, a2, a3, a4⟩ := hrow a ha
  obtain ⟨M, m, _, b2, b3, b4⟩ := hrow b hb
  rw [a2] at h1 ⊢
  rw [b2] at h2 ⊢
  simp only [decide_eq_true_eq] at h1 h2 ⊢
  have hNM : N = M := POK.inj a3.pre b3.pre (by rw [h1, h2])
  subst hNM
  unfold ltR at hlt
  rw [a4, b4, cmpP_join a3.2.1 b3.2.1] at hlt
  have h3 := (ltP_pre N (a := [n]) (b := [m])).1 hlt
  unfold ltP at h3
  unfold ltS
  unfold compareL at h3
  split at h3
  ·exact h3
  ·exact absurd h3 (by decide)
 ·rw [mem_ksE hT]
  unfold namesL
  rw [List.mem_map]
  constructor
  ·rintro ⟨x, hx, h1⟩
   rw [List.mem_filter] at hx
   obtain ⟨hx, h2⟩ := hx
   obtain ⟨N, m, a1, a2, a3, a4⟩ := hrow x hx
   rw [a2] at h1 h2
   simp only [decide_eq_true_eq] at h1 h2
   subst h1
   have hN : N = splitN p := by rw [← h2, a3.pre.sp.2]
   subst hN
   obtain ⟨_, _, g3, _⟩ := h.name hok hx
   rw [a1] at g3
   obtain ⟨e, he, _⟩ := absE_ent g3
   exact ⟨e, he⟩
  ·rintro ⟨e, he⟩
   have hv := absE_at he
   have hP := hok _ _ hv
   refine ⟨(joinS (splitN p ++ [n]), (e.dir, e.data)), List.mem_filter.2 ⟨(h.mem _).2 ⟨_, by simp, rfl, hv⟩, ?_⟩, ?_⟩
   ·rw [parent_row hP]; simp [joinS_splitN hp]
   ·rw [parent_row hP]
theorem Rel.list {p : List UInt8} (hT : TI E) (h : Rel (absE E) l) : listL l p = (if listG (absE E) p = 0 then ksE E (splitN p) else [], listG (absE E) p) := by
 have hG := hT.gi
 unfold listL listG
 rw [h.findL hG]
 by_cases h1 : findG (absE E) p = 0
 ·have hp : splitE p = 0 := Classical.byContradiction fun hp => by rw [findG_bad hp] at h1; exact hp h1
  simp only [findV, h1, if_true]
  split
  ·rw [if_pos rfl, namesL_eq (g := absE E) hT h hp]
  ·rfl
 ·simp only [h1, if_false]
end
end Go.Proofs.Ytebfjdolgchgaaa

namespace Go.Proofs.Ytebfjdolgchgaaa
open Go Go.Fw Go.RowKit
set_option linter.unusedVariables false
set_option linter.unusedSimpArgs false

def BadAt (l : List Raw) (i k : Nat) : Prop := ∃ x y, l[i]? = some x ∧ l[k]? = some y ∧ i ≠ k ∧ x.2.1 = false ∧ underP y.1 x.1 = true
def badL (l : List Raw) : Prop := ∃ i k, BadAt l i k
def fillX (N : NP) (t : List Raw) : Nat → List Raw
 | 0 => t
 | k + 1 => if 0 ≤ atR (fillX N t k) (joinS (N.take (k + 1))) then fillX N t k else withR (fillX N t k) (joinS (N.take (k + 1)), true, [])
def fillL (l t : List Raw) : List Raw := l.foldl (fun t x => fillX (splitN x.1) t ((splitN x.1).length - 1)) t
open Classical in
noncomputable def ofL (l : List Raw) : List Raw × Int :=
 if firstR l ≠ 0 then ([], firstR l) else if ¬ (l.map (·.1)).Nodup then ([], 10) else if badL l then ([], 17) else
  if 128 < (fillL l (l.foldl withR [])).length then ([], 7) else (fillL l (l.foldl withR []), 0)


structure OkL (l : List Raw) : Prop where
 one : ∀ x ∈ l, splitE x.1 = 0 ∧ splitN x.1 ≠ [] ∧ (x.2.1 = true → x.2.2 = []) ∧ x.2.2.length ≤ 65536
 nd : (l.map (·.1)).Nodup
 top : ∀ x ∈ l, ∀ y ∈ l, y.2.1 = false → ∀ t, t ≠ [] → splitN x.1 ≠ splitN y.1 ++ t
theorem OkL.inj {l : List Raw} (h : OkL l) {x y : Raw} (hx : x ∈ l) (hy : y ∈ l) (he : splitN x.1 = splitN y.1) : x = y := by
 have h1 : x.1 = y.1 := by rw [← joinS_splitN (h.one x hx).1, ← joinS_splitN (h.one y hy).1, he]
 have hn := h.nd
 rw [List.Nodup, List.pairwise_map] at hn
 exact Classical.byContradiction fun hne => by
  obtain ⟨i, hi⟩ := List.mem_iff_getElem?.1 hx
  obtain ⟨j, hj⟩ := List.mem_iff_getElem?.1 hy
  obtain ⟨a1, a2⟩ := List.getElem?_eq_some_iff.1 hi
  obtain ⟨b1, b2⟩ := List.getElem?_eq_some_iff.1 hj
  rcases Nat.lt_trichotomy i j with h3 | h3 | h3
  ·exact (List.pairwise_iff_getElem.1 hn i j a1 b1 h3) (by rw [a2, b2, h1])
  ·subst h3; exact hne (a2.symm.trans b2)
  ·exact (List.pairwise_iff_getElem.1 hn j i b1 a1 h3) (by rw [a2, b2, h1])
theorem OkL.find {l : List Raw} (h : OkL l) {x : Raw} {r : NP} (hx : x ∈ l) (he : splitN x.1 = r) : l.find? (fun x => decide (splitN x.1 = r)) = some x := by
 cases hf : l.find? (fun x => decide (splitN x.1 = r)) with
 | none => exact absurd (List.find?_eq_none.1 hf x hx) (by simp [he])
 | some y =>
  have h1 := List.mem_of_find?_eq_some hf
  have h2 := List.find?_some hf
  simp at h2
  rw [h.inj h1 hx (by rw [h2, he])]
theorem OkL.of {l : List Raw} (h1 : ∀ x ∈ l, singleR x = 0) (h2 : togetherR l = 0) : OkL l := by
 obtain ⟨h3, h4⟩ := together_ok h2
 exact ⟨fun x hx => single_ok (h1 x hx), h3, fun x hx y hy hyd t ht he => h4 ⟨x, hx, y, hy, hyd, t, ht, he⟩⟩


structure FillI (l t : List Raw) : Prop where
 srt : t.Pairwise ltR
 old : ∀ y ∈ l, y ∈ t
 new : ∀ y ∈ t, y ∈ l ∨ (y.2 = (true, []) ∧ (∀ z ∈ l, z.1 ≠ y.1) ∧ ∃ x ∈ l, ∃ i, 1 ≤ i ∧ i < (splitN x.1).length ∧ y.1 = joinS ((splitN x.1).take i))
theorem FillI.fill {l : List Raw} {x : Raw} (hx : x ∈ l) : ∀ {t : List Raw} (k : Nat), FillI l t → k < (splitN x.1).length → FillI l (fillX (splitN x.1) t k) ∧ (∀ y ∈ t, y ∈ fillX (splitN x.1) t k) ∧ ∀ i, 1 ≤ i → i ≤ k → ∃ y ∈ fillX (splitN x.1) t k, y.1 = joinS ((splitN x.1).take i)
 | t, 0, h, _ => ⟨h, fun y hy => hy, fun i h1 h2 => by omega⟩
 | t, k + 1, h, hk => by
  obtain ⟨h1, h2, h3⟩ := FillI.fill hx k h (by omega)
  unfold fillX
  split
  ·rename_i hat
   refine ⟨h1, h2, fun i hi1 hi2 => ?_⟩
   rcases Nat.lt_or_ge k i with h4 | h4
   ·have : i = k + 1 := by omega
    subst this
    rcases atR_cases (fillX (splitN x.1) t k) (joinS ((splitN x.1).take (k + 1))) with ⟨j, y, a1, a2, _⟩ | ⟨_, a2⟩
    ·exact ⟨y, List.mem_of_getElem? a1, a2⟩
    ·omega
   ·exact h3 i hi1 h4
  ·rename_i hat
   have hno : ∀ y ∈ fillX (splitN x.1) t k, y.1 ≠ joinS ((splitN x.1).take (k + 1)) := by
    rcases atR_cases (fillX (splitN x.1) t k) (joinS ((splitN x.1).take (k + 1))) with ⟨j, y, a1, a2, a3, _⟩ | ⟨a1, _⟩
    ·omega
    ·exact a1
   refine ⟨⟨withR_srt h1.srt hno, fun y hy => withR_mem.2 (.inr (h1.old y hy)), fun y hy => ?_⟩, fun y hy => withR_mem.2 (.inr (h2 y hy)), fun i hi1 hi2 => ?_⟩
   ·rcases withR_mem.1 hy with rfl | hy
    ·exact .inr ⟨rfl, fun z hz => hno z (h1.old z hz), x, hx, k + 1, by omega, hk, rfl⟩
    ·exact h1.new y hy
   ·rcases Nat.lt_or_ge k i with h4 | h4
    ·have : i = k + 1 := by omega
     subst this
     exact ⟨_, withR_mem.2 (.inl rfl), rfl⟩
    ·obtain ⟨y, hy, he⟩ := h3 i hi1 h4
     exact ⟨y, withR_mem.2 (.inr hy), he⟩
theorem FillI.all {l : List Raw} (h : OkL l) : ∀ {m t : List Raw}, (∀ x ∈ m, x ∈ l) → FillI l t → FillI l (fillL m t) ∧ (∀ y ∈ t, y ∈ fillL m t) ∧ ∀ x ∈ m, ∀ i, 1 ≤ i → i < (splitN x.1).length → ∃ y ∈ fillL m t, y.1 = joinS ((splitN x.1).take i)
 | [], t, _, hF => ⟨hF, fun y hy => hy, by simp⟩
 | x :: m, t, hm, hF => by
  have hx := hm x (by simp)
  have hlen : 0 < (splitN x.1).length := List.length_pos_iff.2 (h.one x hx).2.1
  obtain ⟨h1, h2, h3⟩ := FillI.fill hx ((splitN x.1).length - 1) hF (by omega)
  obtain ⟨g1, g2, g3⟩ := FillI.all h (m := m) (fun y hy => hm y (by simp [hy])) h1
  refine ⟨g1, fun y hy => g2 y (h2 y hy), fun z hz i hi1 hi2 => ?_⟩
  rcases List.mem_cons.1 hz with rfl | hz
  ·obtain ⟨y, hy, he⟩ := h3 i hi1 (by omega)
   exact ⟨y, g2 y hy, he⟩
  ·exact g3 z hz i hi1 hi2

section
variable {l t : List Raw} {x : Raw} {N : NP} {j k : Nat}
theorem fold_mem {y : Raw} : y ∈ l.foldl withR [] ↔ y ∈ l := by
 have := foldW_mem (g := id) (l := l) (A := []) (y := y)
 simpa using this
theorem fold_len : (l.foldl withR []).length = l.length := by
 have := foldW_len (g := id) l []
 simpa using this
theorem ofL_at {c : Int} (hx : l[j]? = some x) (hok : ∀ y ∈ l.take j, singleR y = 0) (hs : singleR x = c) (hc : c ≠ 0) : ofL l = ([], c) := by
 have h := firstR_at hx hok (by rw [hs]; exact hc)
 unfold ofL
 rw [if_pos (by rw [h, hs]; exact hc), h, hs]
theorem ofL_2 (h0 : firstR l = 0) (h : ¬ (l.map (·.1)).Nodup) : ofL l = ([], 10) := by
 unfold ofL; rw [if_neg (by simp [h0]), if_pos h]
theorem ofL_3 (h0 : firstR l = 0) (h : (l.map (·.1)).Nodup) (hb : badL l) : ofL l = ([], 17) := by
 unfold ofL; rw [if_neg (by simp [h0]), if_neg (fun e => e h), if_pos hb]
theorem ofL_4 (h0 : firstR l = 0) (h : (l.map (·.1)).Nodup) (hb : ¬ badL l) : ofL l = if 128 < (fillL l (l.foldl withR [])).length then ([], 7) else (fillL l (l.foldl withR []), 0) := by
 unfold ofL; rw [if_neg (by simp [h0]), if_neg (fun e => e h), if_neg hb]
theorem fillX_no (h : ¬ 0 ≤ atR (fillX N t k) (joinS (N.take (k + 1)))) : fillX N t (k + 1) = withR (fillX N t k) (joinS (N.take (k + 1)), true, []) := by
 conv => lhs; unfold fillX
 rw [if_neg h]
theorem fillX_yes (h : 0 ≤ atR (fillX N t k) (joinS (N.take (k + 1)))) : fillX N t (k + 1) = fillX N t k := by
 conv => lhs; unfold fillX
 rw [if_pos h]
theorem fillX_len : ∀ (k : Nat), (fillX N t k).length ≤ t.length + k
 | 0 => Nat.le_refl _
 | k + 1 => by
  have := fillX_len k
  unfold fillX
  split
  ·omega
  ·rw [withR_len]; omega
theorem fillX_names (hN : POK N) (ht : ∀ y ∈ t, y.1.length ≤ 2000) : ∀ (k : Nat), ∀ y ∈ fillX N t k, y.1.length ≤ 2000
 | 0, y, hy => ht y hy
 | k + 1, y, hy => by
  unfold fillX at hy
  split at hy
  ·exact fillX_names hN ht k y hy
  ·rcases withR_mem.1 hy with rfl | hy
   ·have := (hN.take (k + 1)).2.2
    simp only; omega
   ·exact fillX_names hN ht k y hy
theorem fillL_step (hx : l[j]? = some x) : fillL (l.take (j + 1)) t = fillX (splitN x.1) (fillL (l.take j) t) ((splitN x.1).length - 1) := by
 unfold fillL
 rw [take_mem hx, List.foldl_append]; rfl
theorem fillL_len : ∀ (l t : List Raw), (fillL l t).length ≤ t.length + 8 * l.length
 | [], t => by simp [fillL]
 | x :: l, t => by
  have h1 := fillL_len l (fillX (splitN x.1) t ((splitN x.1).length - 1))
  have h2 := fillX_len (N := splitN x.1) (t := t) ((splitN x.1).length - 1)
  have h3 := splitN_len x.1
  unfold fillL at h1 ⊢
  simp only [List.foldl_cons, List.length_cons]
  omega
theorem fillL_names : ∀ {l t : List Raw}, (∀ x ∈ l, splitE x.1 = 0) → (∀ y ∈ t, y.1.length ≤ 2000) → ∀ y ∈ fillL l t, y.1.length ≤ 2000
 | [], t, _, ht => ht
 | x :: l, t, hl, ht => fillL_names (l := l) (fun z hz => hl z (by simp [hz])) (fillX_names (POK_split (hl x (by simp))) ht _)
theorem badAt_step {a b : Nat} (h : ∀ k < b, ¬ BadAt l a k) (hb : ¬ BadAt l a b) : ∀ k < b + 1, ¬ BadAt l a k := fun k hk => by
 rcases Nat.lt_or_ge k b with h1 | h1
 ·exact h k h1
 ·have : k = b := by omega
  subst this; exact hb
theorem badAt_row {a : Nat} (h : ∀ i < a, ∀ k, ¬ BadAt l i k) (hb : ∀ k < l.length, ¬ BadAt l a k) : ∀ i < a + 1, ∀ k, ¬ BadAt l i k := fun i hi k => by
 rcases Nat.lt_or_ge i a with h1 | h1
 ·exact h i h1 k
 ·have : i = a := by omega
  subst this
  intro hbad
  have hbad' := hbad
  obtain ⟨x, y, h1, h2, _⟩ := hbad'
  exact hb k (List.getElem?_eq_some_iff.1 h2).1 hbad
theorem nilK {w0 : World} : FilesK w0 [] (.slice none 0 0) [] := FilesK.own (L := []) ⟨[], [], [], rfl, rfl, OwL.nil, by simp⟩
end
end Go.Proofs.Ytebfjdolgchgaaa

namespace Go.Fw
open Go Go.RowKit
set_option linter.unusedVariables false
set_option linter.unusedSimpArgs false

theorem run_freeze_end {P : Program} {w : World} {b : Nat} {cs : List Value} {T : TypeId} (hb : w.heap[b]? = some (.cells cs.toArray T (0, 0))) :
  (markStringish ⟨b, 0, none⟩).run P w = .ok () (w.putObj b (.cells cs.toArray T (cs.length, cs.length + 1))) := by
 have hsh : w.shape? b = some (T, cs.length) := by simp [World.shape?, hb]
 have hf : w.freeze ⟨b, cs.length, none⟩ 1 = w.putObj b (.cells cs.toArray T (cs.length, cs.length + 1)) := by
  unfold World.freeze
  rw [if_neg (by decide)]
  simp only [World.putObj]
  congr 1
  apply Array.ext_getElem?
  intro k
  rw [Array.getElem?_modify, Array.getElem?_setIfInBounds]
  split
  ·rename_i hk
   subst hk
   obtain ⟨hlt, he⟩ := Array.getElem?_eq_some_iff.1 hb
   simp [hlt, he]
  ·rfl
 simp [markStringish, run_shape, hsh, hf]

theorem x_cvsl {P : Program} {n : Nat} {ops : Array Oper} {B : Array Nat} {dr : Bool} {K : KT} {s : List (Nat × Bool)} {F : Env} {ds : List Deferred} {T : List (Nat × (World → Prop))} {w : World} {i : Nat}
  {d : Option Tmp} {ty : TypeId} {ps : String} {af : Array Edge} {g : Option (Nat × Bool)} {x : Operand} {t t2 e Tb : TypeId} {b len cap : Nat} {cs : List Value}
  (ho : ops[i]? = some ⟨d, .convert t t2 x, ty, ps, af, g⟩) (hg : guardV ops F g = some true) (hd : dstOK n d = true) (htt : t = t2) (ht : P.underlying t = some (.slice e)) (he : P.underlying e = some (.int .u8))
  (hx : ev? F x = some (.slice (some ⟨b, 0, none⟩) len cap)) (hb : w.heap[b]? = some (.cells cs.toArray Tb (0, 0)))
  (h : ∀ w1, w1 = w.putObj b (.cells cs.toArray Tb (cs.length, cs.length + 1)) → pend B i T w1 ∧ Ex P n ops B dr K s (putE F d (.slice (some ⟨b, 0, none⟩) len cap)) ds T w1) : Ex P n ops B dr K ((i, true) :: s) F ds T w := by
 subst htt
 obtain ⟨g1, g2⟩ := h _ rfl
 refine x_mv ho hg hd (v := .slice (some ⟨b, 0, none⟩) len cap) (w1 := w.putObj b (.cells cs.toArray Tb (cs.length, cs.length + 1))) (fun at_ hk => ?_) g1 g2
 simp only [execOp, hk.eval hx, convert, Sem.run_bind, run_underlying ht, run_underlying he, Result.andThen_ok, beq_self_eq_true, run_freeze_end hb, Sem.run_pure]
theorem SlL.lit {L : List (Nat × Obj)} {b n : Nat} {cs : List Value} {T : TypeId} {fr : Nat × Nat} (hm : (b, Obj.cells cs.toArray T fr) ∈ L) (hn : cs.length = n) : SlL L (.slice (some ⟨b, 0, none⟩) n n) 1 n cs :=
 .inr ⟨b, 0, n, _, T, fr, rfl, Nat.le_refl _, hm, by simp [← hn], by simp [hn]⟩
end Go.Fw

namespace Go.Proofs.Ytebfjdolgchgaaa
open Go Go.Fw Go.RowKit
set_option linter.unusedVariables false
set_option linter.unusedSimpArgs false

structure TR (E : List Ent) (l : List Raw) : Prop where
 ti : TI E
 rel : Rel (absE E) l
 le : l.length ≤ 128
section
variable {E : List Ent} {l : List Raw} {w0 w00 : World} {bt : Nat} {L : List (Nat × Obj)} {p x y b : List UInt8}
theorem TR.files (h : TR E l) : filesE E = l := filesE_eq h.ti h.rel
theorem TR.len (h : TR E l) : E.length = l.length + 1 := by rw [← filesE_len h.ti, h.files]
theorem TR.full (h : TR E l) : decide (E.length = 129) = decide (128 ≤ l.length) := by
 rw [decide_eq_decide]; have := h.len; have := h.le; omega
theorem TR.of {E' : List Ent} {l' : List Raw} (hT : TI E') (hr : Rel (absE E') l') (hl : E'.length ≤ 129) : TR E' l' :=
 ⟨hT, hr, by have := filesE_len hT; rw [filesE_eq hT hr] at this; omega⟩
theorem TR.row (h : TR E l) {z : Raw} (hz : z ∈ l) : splitE z.1 = 0 ∧ splitN z.1 ≠ [] ∧ absE E (splitN z.1) = some z.2 ∧ z.1 ≠ [] := h.rel.name (fun q v hv => (h.ti.gi.ok q v hv).1) hz
theorem TR.names (h : TR E l) : ∀ z ∈ l, z.1.length ≤ 120 := fun z hz => splitE_len (h.row hz).1
theorem TR.data (h : TR E l) : ∀ z ∈ l, z.2.2.length ≤ 65536 ∧ (z.2.1 = true → z.2.2 = []) := fun z hz => (h.ti.gi.ok _ _ (h.row hz).2.2.1).2
theorem TR.at_ {S : Nat → Prop} (h : TR E l) (M : St S w00 (tb bt E ++ L) w0) : TrA w0 bt E := TrA.of h.ti M

theorem TR.new (b m : Nat) : TR (newE b m) [] where
 ti := (TI.new b m).1
 rel := by
  refine ⟨List.Pairwise.nil, fun x => ⟨fun h => (by cases h), fun ⟨N, h0, _, h2⟩ => ?_⟩⟩
  rw [(TI.new b m).2] at h2
  unfold gNew at h2
  rw [if_neg h0] at h2
  cases h2
 le := by simp

end
end Go.Proofs.Ytebfjdolgchgaaa

namespace Go.Fw
open Go Go.ChangeShapes Go.WideShapes Go.ChangeAt Go.RowKit
set_option linter.unusedVariables false
set_option linter.unusedSimpArgs false
section
variable {H : Type} {enc : TypeId × Value → H} {P : Program} {W : World} {sp : Nat → Bool}

theorem rd_bytes {t e : TypeId} (ht : P.underlying t = some (.slice e)) (he : P.underlying e = some (.int .u8)) (hc : P.cellsOf e = 1) :
  Rd enc P W sp t (fun a : Value × List UInt8 => [a.1]) (fun a d => BytesAt W a.1 a.2 ∧ a.2.length ≤ maxLen ∧ ((d = .nil ∧ a.2 = []) ∨ ∃ ds rest, d = .slice ds rest ∧ ds.length = a.2.length)) := fun fuel cs x h => by
 obtain ⟨⟨v, A⟩, rfl, h1, h2, h3, h4⟩ := rd_slice ht hc (by decide) (rd_int he) fuel cs x h
 refine ⟨(v, A.map fun z => UInt8.ofNat z.toNat), rfl, ?_, by simpa using h2, by
  rcases h4 with ⟨h4, h5⟩ | ⟨ds, rest, h4, h5, _⟩
  ·exact .inl ⟨h4, by simp only at h5 ⊢; rw [h5]; rfl⟩
  ·exact .inr ⟨ds, rest, h4, by simpa using h5⟩⟩
 have hv : ∀ l : List Int, (∀ z ∈ l, (Lit.int .u8 z).wf = true) → l.flatMap (fun z : Int => [Value.int .u8 z]) = byteCs (l.map fun z => UInt8.ofNat z.toNat) := by
  intro l hl
  induction l with
  | nil => rfl
  | cons z l ih =>
   have hb := bounds_u8 (hl z (by simp))
   rw [List.flatMap_cons, ih fun y hy => hl y (by simp [hy])]
   simp only [byteCs, List.map_cons, byteV, UInt8.toNat_ofNat', List.singleton_append, List.cons.injEq, and_true]
   congr 1
   have : z.toNat % 2 ^ 8 = z.toNat := Nat.mod_eq_of_lt (by omega)
   rw [this]; omega
 have := hv A (fun z hz => by obtain ⟨_, d', hd, _⟩ := h3 z hz; exact hd)
 simp only at h1 this ⊢
 rw [this] at h1
 unfold BytesAt
 rw [List.length_map]
 exact h1
end
end Go.Fw

namespace Go.Proofs.Ytebfjdolgchgaaa
open Go Go.Fw Go.RowKit
set_option linter.unusedVariables false
set_option linter.unusedSimpArgs false

structure Ac where
 k : Int
 p : List UInt8
 q : List UInt8
 b : List UInt8
def aC (a : Ac × Value) : List Value := [.int .i64 a.1.k, strV a.1.p, strV a.1.q, a.2]
def ActsAt (w : World) (v : Value) (l : List Ac) : Prop := ∃ ac : List (Ac × Value), ac.map (·.1) = l ∧ Sg w v 4 ac.length (ac.flatMap aC) ∧ ∀ f ∈ ac, BytesAt w f.2 f.1.b
section
variable {w w1 : World} {p : Option Addr} {v : Value} {l : List Ac} {a : Ac} {b off len cap j : Nat}
theorem ActsAt.new (h : ActsAt w v l) (hn : New w w1) : ActsAt w1 v l := let ⟨ac, h1, h2, h3⟩ := h; ⟨ac, h1, h2.new hn, fun f hf => (h3 f hf).new hn⟩
theorem ActsAt.shape (h : ActsAt w v l) : ∃ p cap, v = .slice p l.length cap := by
 obtain ⟨ac, h1, h2, _⟩ := h
 have : ac.length = l.length := by rw [← h1]; simp
 rw [← this]; exact h2.shape
theorem ActsAt.blk (h : ActsAt w (.slice p len cap) l) (hj : j < l.length) : ∃ b off, p = some ⟨b, off, none⟩ ∧ len = l.length := by
 obtain ⟨ac, h1, h2, _⟩ := h
 have : ac.length = l.length := by rw [← h1]; simp
 rw [← this]; exact h2.blk (j := j) (by omega)
theorem ActsAt.row (h : ActsAt w (.slice (some ⟨b, off, none⟩) len cap) l) (hx : l[j]? = some a) : ∃ p c, RowAt w b (off + j * 4) [.int .i64 a.k, strV a.p, strV a.q, .slice p a.b.length c] ∧ BytesAt w (.slice p a.b.length c) a.b := by
 obtain ⟨ac, h1, h2, h3⟩ := h
 have hj : j < l.length := (List.getElem?_eq_some_iff.1 hx).1
 have hlen : ac.length = l.length := by rw [← h1]; simp
 obtain ⟨f, hf⟩ := get_lt (l := ac) (q := j) (by omega)
 have hfx : f.1 = a := by
  rw [← h1, List.getElem?_map, hf] at hx
  simpa using hx
 subst hfx
 have h4 := h3 f (List.mem_of_getElem? hf)
 obtain ⟨p, c, h5⟩ := h4.shape
 have hsl := h2.sl (by omega)
 obtain ⟨b', off', h6, h7⟩ := h2.blk (j := j) (by omega)
 cases h6; subst h7
 refine ⟨p, c, ?_, h5 ▸ h4⟩
 rw [← h5]
 have hfd : ((ac.flatMap aC).drop (j * 4)).take (aC f).length = aC f := flat_drop (m := 4) (by decide) (fun _ _ => rfl) hf
 exact hsl.row (j := j) (l := aC f) rfl hfd (by simp [aC])
theorem mem_take_snoc {α : Type} {l : List α} {x : α} {P : α → Prop} (hx : l[j]? = some x) (h : ∀ y ∈ l.take j, P y) (hp : P x) : ∀ y ∈ l.take (j + 1), P y := fun y hy => by
 rw [take_snoc hx] at hy
 rcases List.mem_append.1 hy with hy | hy
 ·exact h y hy
 ·rw [List.mem_singleton.1 hy]; exact hp

end
section
variable {l : List Raw} {p q b : List UInt8}
theorem mkdirL_bad (h : ¬ (mkdirL l p).2 = 0) : (mkdirL l p).1 = l := by
 unfold mkdirL at h ⊢
 split
 ·rename_i h0
  rw [if_pos h0] at h
  split
  ·rfl
  ·rename_i h1
   rw [if_neg h1] at h
   split
   ·rfl
   ·rename_i h2; rw [if_neg h2] at h; exact absurd rfl h
 ·rfl
end

section
variable {E : List Ent} {k : List Raw} {x y : Raw} {i j : Nat}
theorem listL_len (k : List Raw) (p : List UInt8) : (listL k p).1.length ≤ k.length := by
 unfold listL
 split
 ·split
  ·exact namesL_len k p
  ·simp
 ·simp
end
end Go.Proofs.Ytebfjdolgchgaaa

namespace Go.Proofs.Ytebfjdolgchgaaa
open Go Go.Fw Go.RowKit
set_option linter.unusedVariables false
set_option linter.unusedSimpArgs false

def nameF (i : Nat) : List UInt8 := [UInt8.ofNat (97 + i / 12), UInt8.ofNat (97 + i % 12)]
theorem nameF_inj (i : Nat) (hi : i < 144) (j : Nat) (hj : j < 144) (h : nameF i = nameF j) : i = j := by
 simp only [nameF, List.cons.injEq, and_true] at h
 have h1 := congrArg UInt8.toNat h.1
 have h2 := congrArg UInt8.toNat h.2
 simp only [UInt8.toNat_ofNat'] at h1 h2
 omega
structure FullS (l : List Raw) (i : Nat) : Prop where
 len : l.length = min i 128
 in_ : ∀ x ∈ l, ∃ j, j < min i 128 ∧ x.1 = nameF j
 all : ∀ j, j < min i 128 → ∃ x ∈ l, x.1 = nameF j
section
variable {l : List Raw} {p b : List UInt8} {i : Nat} {root : Int}
theorem findL_root (l : List Raw) : findL l [] = (([], true, []), 0) := by
 unfold findL
 rw [if_pos splitE_nil, splitN_0]; rfl
theorem FullS.nil : FullS [] 0 := ⟨rfl, by simp, fun j hj => by simp at hj⟩
theorem FullS.no (h : FullS l i) (hi : i < 144) : ∀ y ∈ l, y.1 ≠ nameF i := fun y hy e => by
 obtain ⟨j, hj, hn⟩ := h.in_ y hy
 have := nameF_inj j (by omega) i hi (hn.symm.trans e)
 omega
end
end Go.Proofs.Ytebfjdolgchgaaa

namespace Go.Proofs.Ytebfjdolgchgaaa
open Go Go.Fw Go.RowKit
set_option linter.unusedVariables false
set_option linter.unusedSimpArgs false

structure MvOK (g : Gf) (l : List Raw) (x y : List UInt8) : Prop where
 fx : splitE x = 0 ∧ splitN x ≠ [] ∧ g (splitN x) ≠ none
 fy : splitE y = 0 ∧ splitN y ≠ []
 ne : x ≠ y
 nu : ¬ (splitN x).isPrefixOf (splitN y) = true
 no : g (splitN y) = none
 fit : fitsG g (splitN x) (splitN y)
section
variable {E E2 : List Ent} {l : List Raw} {x y : List UInt8} {f z : Raw}
theorem TR.find_row (h : TR E l) (hz : z ∈ l) : findL l z.1 = (z, 0) := by
 obtain ⟨h1, h2, h3, h4⟩ := h.row hz
 obtain ⟨e, he, _⟩ := absE_ent h3
 obtain ⟨r, hr, _⟩ := h.ti.root
 have hf : findG (absE E) z.1 = 0 := by
  rw [findG_ok h1]
  exact (comeE_zero h.ti hr).2 ⟨e, by simpa using he⟩
 rw [h.rel.findL h.ti.gi]
 simp only [findV, hf, if_true]
 rw [h3]; rfl
theorem mv_ok (h : TR E l) (h0 : (renameL l x y).2 = 0) (hne : x ≠ y) : MvOK (absE E) l x y ∧ (renameL l x y).1 = movL x y l := by
 have hG := h.ti.gi
 have hok : ∀ q v, absE E q = some v → POK q := fun q v hv => (hG.ok q v hv).1
 unfold renameL at h0 ⊢
 by_cases h1 : (findL l x).2 = 0
 ·rw [if_pos h1] at h0 ⊢
  by_cases h2 : x = []
  ·rw [if_pos h2] at h0; cases h0
  ·rw [if_neg h2] at h0 ⊢
   by_cases h3 : homeL l y 10 = 0
   ·rw [if_pos h3] at h0 ⊢
    rw [if_neg hne] at h0 ⊢
    by_cases h5 : underP y x = true
    ·rw [if_pos h5] at h0; cases h0
    ·rw [if_neg h5] at h0 ⊢
     by_cases h6 : 0 ≤ atR l y
     ·rw [if_pos h6] at h0; cases h0
     ·rw [if_neg h6] at h0 ⊢
      by_cases h7 : l.any (badN x y) = true
      ·rw [if_pos h7] at h0; cases h0
      ·rw [if_neg h7] at h0 ⊢
       rw [h.rel.findL hG] at h1
       rw [h.rel.home hG] at h3
       have hx : splitE x = 0 := Classical.byContradiction fun hp => by rw [findG_bad hp] at h1; exact hp h1
       obtain ⟨hy, hy0, hy1⟩ := home_ok (by decide) h3
       have hx0 : splitN x ≠ [] := fun e => h2 ((sN_nil hx).1 e)
       obtain ⟨r, hr, _⟩ := h.ti.root
       obtain ⟨_, e, he⟩ := findG_ent h.ti hr h1
       refine ⟨⟨⟨hx, hx0, by rw [absE_at he]; simp⟩, ⟨hy, hy0⟩, hne, not_under hx hy (by simpa using h5), ?_, ?_⟩, rfl⟩
       ·have := mt (h.rel.at_ hok hy hy1).2 h6
        simpa using this
       ·exact Classical.byContradiction fun hc => h7 ((bad_iff hG h.rel hx hy hx0 hy0).2 hc)
   ·rw [if_neg h3] at h0; exact absurd h0 h3
 ·rw [if_neg h1] at h0; exact absurd h0 h1
theorem MvOK.above (hG : GI (absE E)) (m : MvOK (absE E) l x y) : ∀ r v, absE E (splitN y ++ r) ≠ some v := fun r v hv => by
 by_cases h0 : r = []
 ·subst h0; rw [List.append_nil, m.no] at hv; cases hv
 ·obtain ⟨b, _, h1, _⟩ := hG.pre hv h0
  rw [m.no] at h1; cases h1
theorem mv_mem : z ∈ movL x y l ↔ ∃ f ∈ l, z = mvN x y f := by
 unfold movL
 rw [foldW_mem]; simp
theorem mv_back (h : TR E l) (m : MvOK (absE E) l x y) (hf : f ∈ l) : mvN y x (mvN x y f) = f ∧ (underP (mvN x y f).1 y = underP f.1 x) := by
 have hG := h.ti.gi
 obtain ⟨a1, a2, a3, a4⟩ := h.row hf
 rcases mvN_cases hG h.rel m.fx.1 m.fy.1 m.fx.2.1 m.fy.2 hf with ⟨r, c1, c2, c3⟩ | ⟨c1, c2, c3⟩
 ·have a3' := a3
  rw [c1] at a3'
  have hsp := (m.fit r (by rw [a3']; simp)).sp
  have hu : underP (joinS (splitN y ++ r)) y = true := by rw [underP_eq, hsp.1, hsp.2, m.fy.1, ipf_app]; rfl
  rw [c3]
  refine ⟨?_, by rw [c2]; exact hu⟩
  unfold mvN
  simp only
  rw [if_pos hu, joinS_cat m.fy.2, joinS_splitN m.fy.1, List.drop_left' rfl, ← joinS_splitN m.fx.1, ← joinS_cat m.fx.2.1]
  rw [← c1, joinS_splitN a1]
 ·have hu : underP f.1 y = false := by
   rw [underP_eq, a1, m.fy.1]
   simp only [decide_true, Bool.true_and]
   cases hp : (splitN y).isPrefixOf (splitN f.1) with
   | false => rfl
   | true =>
    obtain ⟨t, ht⟩ := ipf.1 hp
    rw [ht] at a3
    exact absurd a3 (m.above hG t _)
  rw [c3]
  refine ⟨?_, by rw [c2]; exact hu⟩
  unfold mvN
  rw [hu, if_neg (by simp)]
theorem mvN_snd (x y : List UInt8) (f : Raw) : (mvN x y f).2 = f.2 := by unfold mvN; split <;> rfl
end
end Go.Proofs.Ytebfjdolgchgaaa

namespace Go.Proofs.Ytebfjdolgchgaaa
open Go Go.Fw Go.RowKit
set_option linter.unusedVariables false
set_option linter.unusedSimpArgs false

def bareR (x : Raw) : Raw := (x.1, x.2.1, [])
def bareL (l : List Raw) : List Raw := l.map bareR
section
variable {l : List Raw} {p q b : List UInt8} {x y : Raw}
theorem bare_find (l : List Raw) (p : List UInt8) : (bareL l).find? (fun x => decide (x.1 = p)) = (l.find? (fun x => decide (x.1 = p))).map bareR := by
 unfold bareL
 rw [List.find?_map]; rfl
theorem bare_at (l : List Raw) (p : List UInt8) : atR (bareL l) p = atR l p := by
 unfold atR bareL
 rw [List.findIdx?_map]; rfl
theorem bare_findF (l : List Raw) : ∀ (r pre : NP) (f : Raw), findF (bareL l) pre r (bareR f) = (bareR (findF l pre r f).1, (findF l pre r f).2)
 | [], pre, f => rfl
 | n :: r, pre, f => by
  unfold findF
  rw [bare_find]
  show (if f.2.1 = true then _ else _) = _
  split
  ·cases h : l.find? (fun x => decide (x.1 = joinS (pre ++ [n]))) with
   | none => rfl
   | some x => exact bare_findF l r (pre ++ [n]) x
  ·rfl
theorem bare_findL (l : List Raw) (p : List UInt8) : findL (bareL l) p = (bareR (findL l p).1, (findL l p).2) := by
 unfold findL
 split
 ·exact bare_findF l (splitN p) [] ([], true, [])
 ·rfl
theorem bare_home (l : List Raw) (p : List UInt8) (root : Int) : homeL (bareL l) p root = homeL l p root := by
 unfold homeL
 rw [bare_findL]; rfl
theorem bare_len (l : List Raw) : (bareL l).length = l.length := by simp [bareL]
theorem bare_with (x : Raw) : ∀ l : List Raw, withR (bareL l) (bareR x) = bareL (withR l x)
 | [] => rfl
 | y :: l => by
  have ih := bare_with x l
  show withR (bareR y :: bareL l) (bareR x) = bareL (withR (y :: l) x)
  rw [withR_cons, withR_cons, ih]
  show (if compareP y.1 x.1 < 0 then _ else _) = _
  split <;> rfl
theorem bare_erase (l : List Raw) (i : Nat) : (bareL l).eraseIdx i = bareL (l.eraseIdx i) := by
 exact (map_eraseIdx' bareR l i).symm
theorem bare_busy (l : List Raw) (p : List UInt8) : busyL (bareL l) p = busyL l p := by
 unfold busyL bareL
 rw [List.any_map]; rfl
theorem bare_remove (l : List Raw) (p : List UInt8) : removeL (bareL l) p = (bareL (removeL l p).1, (removeL l p).2) := by
 unfold removeL
 rw [bare_findL, bare_busy, bare_at, bare_erase]
 split
 ·split
  ·rfl
  ·split <;> rfl
 ·rfl
theorem bare_mv (p q : List UInt8) (f : Raw) : mvN p q (bareR f) = bareR (mvN p q f) := by
 unfold mvN
 show (if underP f.1 p = true then _ else _) = _
 split <;> rfl
theorem bare_mov (p q : List UInt8) (l : List Raw) : movL p q (bareL l) = bareL (movL p q l) := by
 have key : ∀ (l A : List Raw), (bareL l).foldl (fun a f => withR a (mvN p q f)) (bareL A) = bareL (l.foldl (fun a f => withR a (mvN p q f)) A) := by
  intro l
  induction l with
  | nil => intro A; rfl
  | cons f l ih =>
   intro A
   show (bareL l).foldl _ (withR (bareL A) (mvN p q (bareR f))) = _
   rw [bare_mv, bare_with]
   exact ih _
 exact key l []
theorem bare_bad (p q : List UInt8) (l : List Raw) : (bareL l).any (badN p q) = l.any (badN p q) := by
 unfold bareL
 rw [List.any_map]
 congr 1
 funext f
 show badN p q (bareR f) = badN p q f
 unfold badN
 rw [bare_mv]; rfl
theorem bare_rename (l : List Raw) (p q : List UInt8) : renameL (bareL l) p q = (bareL (renameL l p q).1, (renameL l p q).2) := by
 unfold renameL
 rw [bare_findL, bare_home, bare_at, bare_bad, bare_mov]
 repeat' (first | rfl | split)

def fileD (l : List Raw) (p : List UInt8) : Option (List UInt8) := match l.find? (fun x => decide (x.1 = p)) with
 | some x => if x.2.1 = true then none else some x.2.2
 | none => none
def setD (l : List Raw) (p b : List UInt8) : List Raw := l.map fun x => if x.1 = p then (x.1, x.2.1, b) else x
def usedL (l : List Raw) : Nat := (l.map fun x => x.2.2.length).sum
theorem bare_set (l : List Raw) (p b : List UInt8) : bareL (setD l p b) = bareL l := by
 unfold bareL setD
 rw [List.map_map]
 apply List.map_congr_left
 intro x _
 show bareR (if x.1 = p then _ else _) = _
 split <;> rfl
end
end Go.Proofs.Ytebfjdolgchgaaa

namespace Go.Proofs.Ytebfjdolgchgaaa
open Go Go.Fw Go.RowKit
set_option linter.unusedVariables false
set_option linter.unusedSimpArgs false

structure OpS where
 k : Int
 p : List UInt8
 q : List UInt8
 h : Int
 a : Int
 n : Int
 w : Bool
 c : Bool
 d : List UInt8
structure RsS where
 e : Int
 h : Int
 n : Int
 d : List UInt8
 l : NP
deriving DecidableEq
def badS (e : Int) : RsS := ⟨e, 0, 0, [], []⟩
abbrev HF := Int → Int → Option (List UInt8 × Bool)
def lowH (hf : HF) (who : Int) : Option Nat := (List.range 16).find? fun i => (hf who ((i : Int) + 1)).isNone
def setH (hf : HF) (who n : Int) (v : Option (List UInt8 × Bool)) : HF := fun a b => if a = who ∧ b = n then v else hf a b
def openB (hf : HF) (p : List UInt8) : Bool := (List.range 8).any fun a => (List.range 16).any fun i => match hf (a : Int) ((i : Int) + 1) with
 | some v => decide (v.1 = p)
 | none => false
def movP (x y q : List UInt8) : List UInt8 := if underP q x = true then y ++ q.drop x.length else q
def movH (hf : HF) (x y : List UInt8) : HF := fun a b => (hf a b).map fun v => (movP x y v.1, v.2)

def sizedB (b : List UInt8) (n : Nat) : List UInt8 := b.take n ++ List.replicate (n - b.length) 0
def overB (b d : List UInt8) (a : Nat) : List UInt8 := b.take a ++ d ++ b.drop (a + d.length)
def writeB (b d : List UInt8) (a : Nat) : List UInt8 := overB (sizedB b (max b.length (a + d.length))) d a
def fileB (l : List Raw) (p : List UInt8) : List UInt8 := (fileD l p).getD []

abbrev St3 := RsS × List Raw × HF
def openS (l : List Raw) (hf : HF) (who : Int) (o : OpS) : St3 :=
 match lowH hf who with
 | none => (badS 7, l, hf)
 | some i =>
  if (cleanP o.p).2 = 0 then
   (if (findL l (cleanP o.p).1).2 = 9 ∧ o.c = true then
    (if (putL l (cleanP o.p).1 []).2 = 0 then (⟨0, (i : Int) + 1, 0, [], []⟩, (putL l (cleanP o.p).1 []).1, setH hf who ((i : Int) + 1) (some ((cleanP o.p).1, o.w)))
     else (badS (putL l (cleanP o.p).1 []).2, l, hf))
    else if (findL l (cleanP o.p).1).2 = 0 then
    (if (findL l (cleanP o.p).1).1.2.1 = true then (badS 16, l, hf) else (⟨0, (i : Int) + 1, 0, [], []⟩, l, setH hf who ((i : Int) + 1) (some ((cleanP o.p).1, o.w))))
    else (badS (findL l (cleanP o.p).1).2, l, hf))
  else (badS (cleanP o.p).2, l, hf)
def readS (l : List Raw) (p : List UInt8) (o : OpS) : RsS :=
 if o.a < 0 ∨ o.n < 0 then badS 2 else ⟨0, 0, 0, ((fileB l p).drop o.a.toNat).take o.n.toNat, []⟩
def sizeS (l : List Raw) (p : List UInt8) (b : List UInt8) (r : RsS) : RsS × List Raw :=
 if 262144 + (fileB l p).length < usedL l + b.length then (badS 7, l) else (r, setD l p b)
def writeS (l : List Raw) (p : List UInt8) (w : Bool) (o : OpS) : RsS × List Raw :=
 if w = false ∨ o.a < 0 then (badS 2, l) else if o.d = [] then (badS 0, l) else if 65536 < o.d.length ∨ 65536 - (o.d.length : Int) < o.a then (badS 3, l) else
  sizeS l p (writeB (fileB l p) o.d o.a.toNat) ⟨0, 0, o.d.length, [], []⟩
def truncS (l : List Raw) (p : List UInt8) (w : Bool) (o : OpS) : RsS × List Raw :=
 if w = false ∨ o.n < 0 then (badS 2, l) else if 65536 < o.n then (badS 3, l) else sizeS l p (sizedB (fileB l p) o.n.toNat) (badS 0)
def handleS (l : List Raw) (hf : HF) (who : Int) (o : OpS) : St3 :=
 match hf who o.h with
 | none => (badS 19, l, hf)
 | some v => if o.k = 2 then (readS l v.1 o, l, hf) else if o.k = 3 then ((writeS l v.1 v.2 o).1, (writeS l v.1 v.2 o).2, hf) else
   if o.k = 4 then ((truncS l v.1 v.2 o).1, (truncS l v.1 v.2 o).2, hf) else (badS 0, l, setH hf who o.h none)
def namedS (l : List Raw) (hf : HF) (p : List UInt8) (o : OpS) : St3 :=
 if o.k = 6 then (badS (mkdirL l p).2, (mkdirL l p).1, hf)
 else if o.k = 7 then (if (removeL l p).2 = 0 then (if openB hf p = true then (badS 18, l, hf) else (badS 0, (removeL l p).1, hf)) else (badS (removeL l p).2, l, hf))
 else if o.k = 8 then (if (cleanP o.q).2 = 0 then (if (renameL l p (cleanP o.q).1).2 = 0 then (badS 0, (renameL l p (cleanP o.q).1).1, movH hf p (cleanP o.q).1) else (badS (renameL l p (cleanP o.q).1).2, l, hf)) else (badS (cleanP o.q).2, l, hf))
 else (⟨(listL l p).2, 0, 0, [], (listL l p).1⟩, l, hf)
def doS (l : List Raw) (hf : HF) (who : Int) (o : OpS) : St3 :=
 if who < 0 ∨ 8 ≤ who ∨ o.k < 1 ∨ 9 < o.k then (badS 2, l, hf)
 else if o.k = 1 then openS l hf who o
 else if o.k ≤ 5 then handleS l hf who o
 else if (cleanP o.p).2 = 0 then namedS l hf (cleanP o.p).1 o else (badS (cleanP o.p).2, l, hf)
end Go.Proofs.Ytebfjdolgchgaaa

namespace Go.Fw
open Go Go.RowKit Go.MapKept
set_option linter.unusedVariables false
set_option linter.unusedSimpArgs false

section
variable {κ : Type} [DecidableEq κ] {enc : κ → Value}




end

section
variable {P : Program} {n : Nat} {ops : Array Oper} {B : Array Nat} {dr : Bool} {K : KT} {s : List (Nat × Bool)} {F : Env} {ds : List Deferred} {T : List (Nat × (World → Prop))} {w : World} {i : Nat}
 {d : Option Tmp} {ty : TypeId} {ps : String} {af : Array Edge} {gd : Option (Nat × Bool)} {t k e : TypeId} {x y : Operand} {κ : Type} [DecidableEq κ] {enc : κ → Value}
end
end Go.Fw

namespace Go.Fw
open Go Go.RowKit
set_option linter.unusedVariables false
set_option linter.unusedSimpArgs false

section
variable {P : Program} {n : Nat} {ops : Array Oper} {B : Array Nat} {dr : Bool} {K : KT} {s : List (Nat × Bool)} {F : Env} {ds : List Deferred} {T : List (Nat × (World → Prop))} {w : World} {i : Nat}
 {d : Option Tmp} {ty : TypeId} {ps : String} {af : Array Edge} {g : Option (Nat × Bool)} {x y : Operand} {t t2 e m : TypeId}




def nilI : Value → Option Bool | .nilIface => some true | .iface _ _ => some false | _ => none
theorem run_equal_if {a : _} {t0 : TypeId} {v0 : Value} {w : World} (hu : P.underlying t = some (.interface a)) : (Op.equal t (.iface t0 v0) .nilIface).run P w = .ok false w := by
 unfold Op.equal Op.maxDepth Op.equalIn
 rw [Sem.run_bind, run_underlying hu]
 rfl
theorem run_equal_if0 {a : _} {w : World} (hu : P.underlying t = some (.interface a)) : (Op.equal t .nilIface .nilIface).run P w = .ok true w := by
 unfold Op.equal Op.maxDepth Op.equalIn
 rw [Sem.run_bind, run_underlying hu]
 rfl
theorem x_eqif {a : _} {v c : Value} (r : Bool) (ho : ops[i]? = some ⟨d, .binOp .eql t x (.const c) t2, ty, ps, af, g⟩) (hg : guardV ops F g = some true) (hd : dstOK n d = true) (hu : P.underlying t = some (.interface a)) (hx : ev? F x = some v) (hc : c = .nilIface) (hr : nilI v = some r)
  (h : Ex P n ops B dr K s (putE F d (.bool r)) ds T w) : Ex P n ops B dr K ((i, false) :: s) F ds T w :=
 Ex.pure_ ho hg hd _ (fun at_ hk w' => by
  subst hc
  have hy : at_.eval (.const .nilIface) = .nilIface := rfl
  simp only [execOp, hk.eval hx, hy]
  cases v <;> simp only [nilI, Option.some.injEq, reduceCtorEq] at hr <;> subst hr
  ·rename_i t0 v0
   have e1 : eqGuard .eql t x (.const .nilIface) (.iface t0 v0) .nilIface = pure () := rfl
   rw [e1]
   simp only [Sem.run_bind, Sem.run_pure, Result.andThen_ok, binOp, run_equal_if hu]
  ·have e1 : eqGuard .eql t x (.const .nilIface) .nilIface .nilIface = pure () := by cases x <;> rfl
   rw [e1]
   simp only [Sem.run_bind, Sem.run_pure, Result.andThen_ok, binOp, run_equal_if0 hu]) h

def methOK (P : Program) (T : TypeId) (name : String) (f : FuncId) : Bool := match P.info? T with
 | some i => match i.methods.find? (·.name == name) with
  | some m => (match m.func with | some (f', p) => f' == f && p | none => false) && m.path.toList.isEmpty && (match P.underlying T with | some (.pointer _) => true | _ => false)
  | none => false
 | none => false
theorem run_method {Ty : TypeId} {name : String} {f : FuncId} {v : Value} {k : Nat} (h : methOK P Ty name f = true) : (method (k + 1) Ty v name).run P w = .ok (f, v) w := by
 unfold methOK at h
 split at h
 ·rename_i inf hi
  split at h
  ·rename_i m hm
   simp only [Bool.and_eq_true] at h
   obtain ⟨⟨h1, h2⟩, h3⟩ := h
   split at h1
   ·rename_i f' p hf
    simp only [Bool.and_eq_true, beq_iff_eq] at h1
    obtain ⟨rfl, hp⟩ := h1
    split at h3
    ·rename_i e0 hu
     have hl : m.path.toList = [] := List.isEmpty_iff.1 h2
     have hti : (typeInfo Ty).run P w = .ok inf w := by simp [typeInfo, hi, Sem.run_bind, Sem.run_pure]
     unfold method
     rw [Sem.run_bind, hti]
     simp only [Result.andThen_ok, hm, hl, follow, Sem.run_bind, Sem.run_pure, hf, hp, receiverAt, run_underlying hu, Place.get]
    ·cases h3
   ·cases h1
  ·cases h
 ·cases h
theorem run_method' {Ty : TypeId} {name : String} {f : FuncId} {v : Value} (h : methOK P Ty name f = true) : (method (P.types.size + Made.depth) Ty v name).run P w = .ok (f, v) w :=
 run_method (k := P.types.size + 99) h
theorem x_inv {args : Array Operand} {at0 : Array TypeId} {name : String} {Ty : TypeId} {v : Value} {f : FuncId} {vs : List Value} {R : Value → World → Prop} (ho : ops[i]? = some ⟨d, .call ⟨.invoke x name, args, at0⟩, ty, ps, af, g⟩) (hg : guardV ops F g = some true) (hd : dstOK n d = true)
  (hx : ev? F x = some (.iface Ty v)) (hargs : evs? F args.toList = some vs) (hm : methOK P Ty name f = true) (he : entered P f = true) (hc : Ret P f (#[v] ++ vs.toArray) w R) (h : ∀ v' w', R v' w' → pend B i T w' ∧ Ex P n ops B dr K s (putE F d v') ds T w') : Ex P n ops B dr K ((i, true) :: s) F ds T w :=
 Ex.mov_ ho hg hd R (fun a hk => by
  unfold OpR
  have e1 : (#[Value.iface Ty v] ++ vs.toArray).extract 1 (#[Value.iface Ty v] ++ vs.toArray).size = vs.toArray := by
   apply Array.ext'
   simp
  have e0 : (#[Value.iface Ty v] ++ vs.toArray)[0]? = some (.iface Ty v) := by simp
  simp only [execOp, resolve, hk.eval hx, evs_array hk hargs, Sem.run_bind, Sem.run_pure, Result.andThen_ok, invoke, e0, e1, callMethod, run_program, run_method' hm, run_callFunc he, nextR]
  exact hc) h


end
end Go.Fw

namespace Go.Proofs.Ytebfjdolgchgaaa
open Go Go.Fw Go.RowKit
set_option linter.unusedVariables false
set_option linter.unusedSimpArgs false

def WrN (L : List (Nat × Obj)) (v : Value) (n : Nat) : Prop := (v = .slice none 0 0 ∧ n = 0) ∨ ∃ (bk cap : Nat) (cs : List Value) (T : TypeId), v = .slice (some ⟨bk, 0, none⟩) n cap ∧ (bk, Obj.cells cs.toArray T (0, 0)) ∈ L ∧ n ≤ cs.length ∧ ∀ j < n, ∃ x : UInt8, cs[j]? = some (byteV x)
section
variable {L L' A B : List (Nat × Obj)} {v : Value} {n k : Nat} {b : List UInt8}
theorem WrN.own (h : OwL L v 1 n (byteCs b)) (hs : ∀ y ∈ L, y ∈ L') : WrN L' v n := by
 have hlen := h.len
 rw [byteCs_len] at hlen
 rcases h with ⟨h1, h2, _⟩ | ⟨bk, cap, rest, T, h1, rfl, h3, h4⟩
 ·exact .inl ⟨h1, h2⟩
 ·refine .inr ⟨bk, cap, byteCs b ++ rest, T, h1, hs _ (List.mem_singleton.2 rfl), by rw [List.length_append, byteCs_len]; omega, fun j hj => ?_⟩
  obtain ⟨x, hx⟩ := get_lt (l := b) (q := j) (by omega)
  exact ⟨x, by rw [List.getElem?_append_left (by rw [byteCs_len]; omega)]; exact byteCs_get hx⟩
theorem WrN.mono (h : WrN L v n) (hs : ∀ y ∈ L, y ∈ L') : WrN L' v n := h.imp id fun ⟨bk, cap, cs, T, h1, h2, h3⟩ => ⟨bk, cap, cs, T, h1, hs _ h2, h3⟩
theorem WrN.shape (h : WrN L v n) : ∃ p cap, v = .slice p n cap := by
 rcases h with ⟨rfl, rfl⟩ | ⟨bk, cap, cs, T, rfl, _⟩
 ·exact ⟨none, 0, rfl⟩
 ·exact ⟨_, cap, rfl⟩
theorem WrN.set {bk T : Nat} {cs : List Value} {y : UInt8} (h : WrN (A ++ (bk, Obj.cells cs.toArray T (0, 0)) :: B) v n) (hcs : ∀ j < k, ∃ x : UInt8, cs[j]? = some (byteV x)) (hk : k ≤ cs.length) {q : Nat} (hq : q < k) :
  WrN (A ++ (bk, Obj.cells (cs.set q (byteV y)).toArray T (0, 0)) :: B) v n := by
 rcases h with h | ⟨b', cap, cs', T', h1, h2, h3, h4⟩
 ·exact .inl h
 ·rcases List.mem_append.1 h2 with h5 | h5
  ·exact .inr ⟨b', cap, cs', T', h1, List.mem_append_left _ h5, h3, h4⟩
  ·rcases List.mem_cons.1 h5 with h6 | h6
   ·simp only [Prod.mk.injEq, Obj.cells.injEq, and_true] at h6
    obtain ⟨rfl, h7, rfl⟩ := h6
    have h7 : cs' = cs := by have := congrArg Array.toList h7; simpa using this
    subst h7
    refine .inr ⟨b', cap, cs'.set q (byteV y), T', h1, List.mem_append_right _ List.mem_cons_self, by rw [List.length_set]; exact h3, fun j hj => ?_⟩
    rw [List.getElem?_set]
    by_cases e : q = j
    ·subst e
     rw [if_pos rfl, if_pos (by omega)]
     exact ⟨y, rfl⟩
    ·rw [if_neg e]; exact h4 j hj
   ·exact .inr ⟨b', cap, cs', T', h1, List.mem_append_right _ (List.mem_cons_of_mem _ h6), h3, h4⟩
end

section
variable {l : List Raw} {w0 : World}
end
structure InO (Lo Ld : List (Nat × Obj)) (v : Value) (fs : List (Raw × Value)) : Prop where
 own : OwL Lo v 3 fs.length (fCs fs)
 dat : ∀ f ∈ fs, (∃ Lf, (∀ y ∈ Lf, y ∈ Ld) ∧ OwL Lf f.2 1 f.1.2.2.length (byteCs f.1.2.2)) ∧ f.2.oneCell' = true
theorem InO.files {Lo Ld L : List (Nat × Obj)} {v : Value} {fs : List (Raw × Value)} {S : Nat → Prop} {w0 w : World} (h : InO Lo Ld v fs) (M : St S w0 L w) (h1 : ∀ y ∈ Lo, y ∈ L) (h2 : ∀ y ∈ Ld, y ∈ L) : FilesAt w v (fs.map (·.1)) :=
 ⟨fs, rfl, .inr ((h.own.sl (by decide)).at_ M h1), fun f hf => ⟨by
  obtain ⟨⟨Lf, g1, g2⟩, _⟩ := h.dat f hf
  exact .inr ((g2.sl (by decide)).at_ M fun y hy => h2 y (g1 y hy)), (h.dat f hf).2⟩⟩
end Go.Proofs.Ytebfjdolgchgaaa

namespace Go.Proofs.Ytebfjdolgchgaaa
open Go Go.Fw Go.RowKit
set_option linter.unusedVariables false
set_option linter.unusedSimpArgs false

structure Con where
 k : List UInt8
 b : Nat
 own : Bool
 v : Value
 D : List (Nat × Obj)
 nm : List UInt8
 sz : Int
 d : List UInt8
def Con.cs (c : Con) : List Value := [.bool c.own, c.v, strV c.nm, .int .i64 c.sz]
def Con.hd (c : Con) : Nat × Obj := (c.b, .cells c.cs.toArray 0 (0, 0))
def Con.blks (c : Con) : List (Nat × Obj) := c.hd :: c.D
def cblks (C : List Con) : List (Nat × Obj) := C.flatMap Con.blks
def cget (C : List Con) (p : List UInt8) : Option Con := C.find? (fun c => decide (c.k = p))
def cmap (C : List Con) : List UInt8 → Option Value := fun p => (cget C p).map fun c => ptr c.b
abbrev BaseF := List UInt8 → Option (List UInt8)
structure Con.OK (base : BaseF) (c : Con) : Prop where
 le : c.d.length ≤ 65536
 own : c.own = true → BytesO c.D c.v c.d
 bas : c.own = false → c.D = [] ∧ c.v = .slice none 0 0 ∧ c.sz = c.d.length ∧ base c.nm = some c.d

abbrev Hd := List UInt8 × Bool
def hCs (hs : List Hd) : List Value := hs.flatMap fun h => [strV h.1, .bool h.2]
structure FSt where
 bt : Nat
 bm : Nat
 om : Obj
 E : List Ent
 C : List Con
 hs : List Hd
def fsC (bv : Value) (u : Nat) (S : FSt) : List Value := bv :: ptr S.bt :: .map (some S.bm) :: (hCs S.hs ++ [.int .i64 (u : Int)])
def fsB (bf : Nat) (bv : Value) (u : Nat) (S : FSt) : List (Nat × Obj) := (bf, .cells (fsC bv u S).toArray 0 (0, 0)) :: (S.bm, S.om) :: (tb S.bt S.E ++ cblks S.C)
def hAt (hs : List Hd) : HF := fun who n => if 0 ≤ who ∧ who < 8 ∧ 1 ≤ n ∧ n ≤ 16 then (match hs[16 * who.toNat + (n - 1).toNat]? with
 | some h => if h.1 = [] then none else some h
 | none => none) else none
structure FR (base : BaseF) (S : FSt) (l : List Raw) (hf : HF) : Prop where
 tr : TR S.E (bareL l)
 mp : MapF strV S.om (cmap S.C)
 cn : (S.C.map (·.k)).Nodup
 ok : ∀ c ∈ S.C, c.OK base
 cl : ∀ p d, (p, false, d) ∈ l ↔ ∃ c ∈ S.C, c.k = p ∧ c.d = d
 dd : ∀ z ∈ l, z.2.1 = true → z.2.2 = []
 us : usedL l ≤ 262144
 hl : S.hs.length = 128
 hh : hf = hAt S.hs
 ho : ∀ h ∈ S.hs, h.1 ≠ [] → ∃ d, (h.1, false, d) ∈ l

structure BaseC (w00 : World) (Lb : List (Nat × Obj)) (bv : Value) (base : BaseF) : Prop where
 tells : ∃ Ty rv f, bv = .iface Ty rv ∧ methOK Try.prog Ty "Block" f = true ∧ entered Try.prog f = true ∧
  ∀ nm b (i : Nat) X w, base nm = some b → 4096 * i < b.length → Sep w00 (Lb ++ X) w → Ret Try.prog f #[rv, .agg #[strV nm, .int .i64 (i : Int)]] w fun r w' => ∃ Lr, BytesO Lr r ((b.drop (4096 * i)).take 4096) ∧ Sep w00 (Lb ++ (X ++ Lr)) w'

def opC (o : OpS) (dv : Value) : List Value := [.int .i64 o.k, strV o.p, strV o.q, .int .i64 o.h, .int .i64 o.a, .int .i64 o.n, .bool o.w, .bool o.c, dv]
def rsV (r : RsS) (dv lv : Value) : Value := .agg #[.int .i64 r.e, .int .i64 r.h, .int .i64 r.n, dv, lv]
def RsO (L : List (Nat × Obj)) (v : Value) (r : RsS) : Prop := ∃ dv lv L1 L2, v = rsV r dv lv ∧ L = L1 ++ L2 ∧ BytesO L1 dv r.d ∧ StrsO L2 lv r.l
theorem RsO.bad {e : Int} : RsO [] (rsV (badS e) (.slice none 0 0) (.slice none 0 0)) (badS e) := ⟨_, _, [], [], rfl, rfl, OwL.nil, OwL.nil⟩

section
variable {C : List Con} {c : Con} {p q d : List UInt8} {hs : List Hd} {h : Hd} {S : FSt} {bv : Value} {u off j : Nat}
theorem cget_mem (h : cget C p = some c) : c ∈ C ∧ c.k = p := ⟨List.mem_of_find?_eq_some h, by have := List.find?_some h; simpa using this⟩
theorem cget_of : ∀ {C : List Con} {c : Con}, (C.map (·.k)).Nodup → c ∈ C → cget C c.k = some c
 | x :: C, c, hn, hc => by
  unfold cget
  rw [List.find?_cons]
  simp only [List.map_cons, List.nodup_cons] at hn
  rcases List.mem_cons.1 hc with rfl | hc
  ·simp
  ·have : x.k ≠ c.k := fun e => hn.1 (e ▸ List.mem_map.2 ⟨c, hc, rfl⟩)
   simp only [this, decide_false]
   exact cget_of hn.2 hc

theorem tk_app {α : Type} {A B : List α} {n : Nat} (h : A.length = n) : (A ++ B).take n = A := by subst h; simp
theorem dr_app {α : Type} {A B : List α} {n : Nat} (k : Nat) (h : A.length = n) : (A ++ B).drop (n + k) = B.drop k := by subst h; simp [List.drop_append]
theorem split_at {α : Type} {l : List α} {x : α} (h : l[j]? = some x) : l = l.take j ++ x :: l.drop (j + 1) := by
 obtain ⟨hl, rfl⟩ := List.getElem?_eq_some_iff.1 h
 rw [← List.drop_eq_getElem_cons hl, List.take_append_drop]
theorem set_at {α : Type} {l : List α} {x y : α} (h : l[j]? = some x) : l.set j y = l.take j ++ y :: l.drop (j + 1) := by
 obtain ⟨hl, _⟩ := List.getElem?_eq_some_iff.1 h
 rw [List.set_eq_take_append_cons_drop, if_pos hl]

end
end Go.Proofs.Ytebfjdolgchgaaa

namespace Go.Proofs.Ytebfjdolgchgaaa
open Go Go.Fw Go.RowKit
set_option linter.unusedVariables false
set_option linter.unusedSimpArgs false

def hnd (bf : Nat) (S : FSt) (who n : Int) (po : Option Addr) : Prop := (hAt S.hs who n = none ∧ po = none) ∨
 ∃ (a i : Nat) (h : Hd), who = (a : Int) ∧ n = (i : Int) + 1 ∧ a < 8 ∧ i < 16 ∧ S.hs[16 * a + i]? = some h ∧ h.1 ≠ [] ∧ po = some ⟨bf, 3 + 2 * (16 * a + i), none⟩
section
variable {hs : List Hd} {h : Hd} {who n : Int} {a i : Nat}
theorem hAt_at (ha : a < 8) (hi : i < 16) : hAt hs (a : Int) ((i : Int) + 1) = match hs[16 * a + i]? with
 | some h => if h.1 = [] then none else some h
 | none => none := by
 unfold hAt
 rw [if_pos ⟨by omega, by omega, by omega, by omega⟩, Int.toNat_natCast, show ((i : Int) + 1 - 1).toNat = i by omega]
 all_goals rfl
theorem hAt_some (ha : a < 8) (hi : i < 16) (hq : hs[16 * a + i]? = some h) (he : h.1 ≠ []) : hAt hs (a : Int) ((i : Int) + 1) = some h := by
 rw [hAt_at ha hi, hq]; simp [he]
end
theorem fidx_some {α : Type} {l : List α} {f : α → Bool} {j : Nat} {x : α} (hx : l[j]? = some x) (hno : ∀ y ∈ l.take j, f y = false) (hf : f x = true) : l.findIdx? f = some j := by
 rw [List.findIdx?_eq_some_iff_getElem]
 obtain ⟨hl, rfl⟩ := List.getElem?_eq_some_iff.1 hx
 refine ⟨hl, hf, fun i hi => ?_⟩
 rw [hno _ (List.mem_take_iff_getElem.2 ⟨i, by omega, rfl⟩)]; simp
def idxI {α : Type} (l : List α) (f : α → Bool) : Int := match l.findIdx? f with | some i => (i : Int) | none => -1
theorem idxI_at {α : Type} {l : List α} {f : α → Bool} {j : Nat} {x : α} (hx : l[j]? = some x) (hno : ∀ y ∈ l.take j, f y = false) (hf : f x = true) : idxI l f = (j : Int) := by
 unfold idxI; rw [fidx_some hx hno hf]
theorem idxI_no {α : Type} {l : List α} {f : α → Bool} (hno : ∀ y ∈ l, f y = false) : idxI l f = -1 := by
 unfold idxI; rw [List.findIdx?_eq_none_iff.2 hno]
end Go.Proofs.Ytebfjdolgchgaaa

namespace Go.Proofs.Ytebfjdolgchgaaa
open Go Go.Fw Go.RowKit
set_option linter.unusedVariables false
set_option linter.unusedSimpArgs false

theorem bare_names' (l : List Raw) : (bareL l).map (·.1) = l.map (·.1) := by unfold bareL; rw [List.map_map]; rfl
theorem find_nd : ∀ {l : List Raw} {z : Raw}, (l.map (·.1)).Nodup → z ∈ l → l.find? (fun x => decide (x.1 = z.1)) = some z
 | x :: l, z, hn, hz => by
  rw [List.find?_cons]
  simp only [List.map_cons, List.nodup_cons] at hn
  rcases List.mem_cons.1 hz with rfl | hz
  ·simp
  ·have : x.1 ≠ z.1 := fun e => hn.1 (e ▸ List.mem_map.2 ⟨z, hz, rfl⟩)
   simp only [this, decide_false]
   exact find_nd hn.2 hz
theorem names_inj {l : List Raw} {x y : Raw} (hn : (l.map (·.1)).Nodup) (hx : x ∈ l) (hy : y ∈ l) (h : x.1 = y.1) : x = y := by
 have h1 := find_nd hn hx
 have h2 := find_nd hn hy
 rw [h] at h1
 exact Option.some.inj (h1.symm.trans h2)
theorem usedL_app (a b : List Raw) : usedL (a ++ b) = usedL a + usedL b := by simp [usedL]
theorem usedL_cons (x : Raw) (b : List Raw) : usedL (x :: b) = x.2.2.length + usedL b := by simp [usedL]
theorem usedL_mem {l : List Raw} {x : Raw} (h : x ∈ l) : x.2.2.length ≤ usedL l := by
 obtain ⟨A, B, rfl⟩ := List.append_of_mem h
 rw [usedL_app, usedL_cons]; omega
theorem usedL_perm {a b : List Raw} (h : a.Perm b) : usedL a = usedL b := (h.map _).sum_nat
theorem fileD_of {l : List Raw} {p d : List UInt8} (hn : (l.map (·.1)).Nodup) (hm : (p, false, d) ∈ l) : fileD l p = some d := by
 unfold fileD
 rw [find_nd (z := (p, false, d)) hn hm]; rfl
theorem setD_split {l : List Raw} {p b d : List UInt8} (hn : (l.map (·.1)).Nodup) (hm : (p, false, d) ∈ l) : ∃ A B, l = A ++ (p, false, d) :: B ∧ setD l p b = A ++ (p, false, b) :: B := by
 obtain ⟨A, B, rfl⟩ := List.append_of_mem hm
 refine ⟨A, B, rfl, ?_⟩
 rw [List.map_append, List.map_cons, List.nodup_append] at hn
 obtain ⟨_, h2, h3⟩ := hn
 have id1 : ∀ {X : List Raw}, (∀ x ∈ X, x.1 ≠ p) → X.map (fun x => if x.1 = p then (x.1, x.2.1, b) else x) = X := by
  intro X hX
  conv => rhs; rw [← List.map_id X]
  apply List.map_congr_left
  intro x hx
  rw [if_neg (hX x hx)]; rfl
 unfold setD
 rw [List.map_append, List.map_cons, id1 (fun x hx e => h3 x.1 (List.mem_map.2 ⟨x, hx, rfl⟩) p (by simp) e), id1 (fun x hx e => (List.nodup_cons.1 h2).1 (List.mem_map.2 ⟨x, hx, e⟩)), if_pos rfl]
theorem mem_setD {l : List Raw} {p b : List UInt8} {z : Raw} : z ∈ setD l p b ↔ (z ∈ l ∧ z.1 ≠ p) ∨ (z.1 = p ∧ z.2.2 = b ∧ ∃ y ∈ l, y.1 = p ∧ y.2.1 = z.2.1) := by
 unfold setD
 rw [List.mem_map]
 constructor
 ·rintro ⟨x, hx, rfl⟩
  by_cases h : x.1 = p
  ·rw [if_pos h]; exact .inr ⟨h, rfl, x, hx, h, rfl⟩
  ·rw [if_neg h]; exact .inl ⟨hx, h⟩
 ·rintro (⟨h1, h2⟩ | ⟨h1, h2, y, h3, h4, h5⟩)
  ·exact ⟨z, h1, if_neg h2⟩
  ·refine ⟨y, h3, ?_⟩
   rw [if_pos h4, h4, h5, ← h1, ← h2]

def updC (C : List Con) (p : List UInt8) (c' : Con) : List Con := C.map fun c => if c.k = p then c' else c
theorem updC_split {C : List Con} {c : Con} (hn : (C.map (·.k)).Nodup) (hc : c ∈ C) : ∃ A B, C = A ++ c :: B ∧ ∀ c', updC C c.k c' = A ++ c' :: B := by
 obtain ⟨A, B, rfl⟩ := List.append_of_mem hc
 refine ⟨A, B, rfl, fun c' => ?_⟩
 rw [List.map_append, List.map_cons, List.nodup_append] at hn
 obtain ⟨_, h2, h3⟩ := hn
 have id1 : ∀ {X : List Con}, (∀ x ∈ X, x.k ≠ c.k) → X.map (fun x => if x.k = c.k then c' else x) = X := by
  intro X hX
  conv => rhs; rw [← List.map_id X]
  apply List.map_congr_left
  intro x hx
  rw [if_neg (hX x hx)]; rfl
 unfold updC
 rw [List.map_append, List.map_cons, id1 (fun x hx e => h3 x.k (List.mem_map.2 ⟨x, hx, rfl⟩) c.k (by simp) e), id1 (fun x hx e => (List.nodup_cons.1 h2).1 (List.mem_map.2 ⟨x, hx, e⟩)), if_pos rfl]

section
variable {base : BaseF} {S : FSt} {l : List Raw} {hf : HF} {c c' : Con} {p d b : List UInt8}
theorem FR.names (h : FR base S l hf) : (l.map (·.1)).Nodup := by have := srt_names h.tr.rel.srt; rwa [bare_names'] at this
theorem FR.con (h : FR base S l hf) (hm : (p, false, d) ∈ l) : ∃ c ∈ S.C, c.k = p ∧ c.d = d ∧ cget S.C p = some c := by
 obtain ⟨c, hc, h1, h2⟩ := (h.cl p d).1 hm
 exact ⟨c, hc, h1, h2, h1 ▸ cget_of h.cn hc⟩
theorem FR.row (h : FR base S l hf) (hc : c ∈ S.C) : (c.k, false, c.d) ∈ l := (h.cl _ _).2 ⟨c, hc, rfl, rfl⟩
theorem FR.le (h : FR base S l hf) (hm : (p, false, d) ∈ l) : d.length ≤ 65536 ∧ d.length ≤ usedL l := by
 obtain ⟨c, hc, _, rfl, _⟩ := h.con hm
 exact ⟨(h.ok c hc).le, usedL_mem hm⟩
theorem FR.get (h : FR base S l hf) (p : List UInt8) : cget S.C p = none ∨ ∃ c ∈ S.C, c.k = p ∧ cget S.C p = some c := by
 cases hg : cget S.C p with
 | none => exact .inl rfl
 | some c => exact .inr ⟨c, (cget_mem hg).1, (cget_mem hg).2, rfl⟩
theorem FR.no (h : FR base S l hf) (hg : cget S.C p = none) : ∀ d, (p, false, d) ∉ l := fun d hm => by
 obtain ⟨c, _, _, _, h1⟩ := h.con hm
 rw [hg] at h1; cases h1
theorem FR.set (h : FR base S l hf) (hc : c ∈ S.C) (hk : c'.k = c.k) (hb : c'.b = c.b) (hOK : c'.OK base) (hu : usedL l + c'.d.length ≤ 262144 + c.d.length) :
  FR base { S with C := updC S.C c.k c' } (setD l c.k c'.d) hf ∧ usedL (setD l c.k c'.d) + c.d.length = usedL l + c'.d.length := by
 have hm := h.row hc
 obtain ⟨A, B, e1, e2⟩ := setD_split (b := c'.d) h.names hm
 obtain ⟨CA, CB, f1, f2⟩ := updC_split h.cn hc
 have hus : usedL (setD l c.k c'.d) + c.d.length = usedL l + c'.d.length := by
  rw [e2]
  conv => rhs; rw [e1]
  simp only [usedL_app, usedL_cons]
  omega
 have hmem : ∀ x, x ∈ updC S.C c.k c' ↔ (x ∈ S.C ∧ x.k ≠ c.k) ∨ x = c' := by
  intro x
  unfold updC
  rw [List.mem_map]
  constructor
  ·rintro ⟨y, hy, rfl⟩
   by_cases e : y.k = c.k
   ·rw [if_pos e]; exact .inr rfl
   ·rw [if_neg e]; exact .inl ⟨hy, e⟩
  ·rintro (⟨h1, h2⟩ | rfl)
   ·exact ⟨x, h1, if_neg h2⟩
   ·exact ⟨c, hc, if_pos rfl⟩
 refine ⟨⟨by rw [bare_set]; exact h.tr, ?_, ?_, ?_, ?_, ?_, by omega, h.hl, h.hh, ?_⟩, hus⟩
 ·have : cmap (updC S.C c.k c') = cmap S.C := by
   funext q
   unfold cmap cget
   rw [f2, f1, List.find?_append, List.find?_append, List.find?_cons, List.find?_cons, hk]
   cases CA.find? (fun c => decide (c.k = q)) with
   | some x => rfl
   | none =>
    simp only [Option.none_or]
    by_cases e : c.k = q
    ·simp [e, hb]
    ·simp [e]
  show MapF strV S.om (cmap (updC S.C c.k c'))
  rw [this]; exact h.mp
 ·have := h.cn
  rw [f1] at this
  show ((updC S.C c.k c').map (·.k)).Nodup
  rw [f2]
  simpa [hk] using this
 ·intro x hx
  rcases (hmem x).1 hx with ⟨h1, _⟩ | rfl
  ·exact h.ok x h1
  ·exact hOK
 ·intro q d
  rw [mem_setD]
  constructor
  ·rintro (⟨h1, h2⟩ | ⟨h1, h2, y, h3, h4, h5⟩)
   ·obtain ⟨x, hx, g1, g2⟩ := (h.cl q d).1 h1
    exact ⟨x, (hmem x).2 (.inl ⟨hx, fun e => h2 (g1.symm.trans e)⟩), g1, g2⟩
   ·simp only at h1 h2
    exact ⟨c', (hmem c').2 (.inr rfl), hk.trans h1.symm, h2.symm⟩
  ·rintro ⟨x, hx, rfl, rfl⟩
   rcases (hmem x).1 hx with ⟨h1, h2⟩ | rfl
   ·exact .inl ⟨h.row h1, h2⟩
   ·exact .inr ⟨hk, rfl, _, hm, rfl, rfl⟩
 ·intro z hz hd
  rcases mem_setD.1 hz with ⟨h1, _⟩ | ⟨h1, _, y, h3, h4, h5⟩
  ·exact h.dd z h1 hd
  ·have := names_inj h.names h3 hm h4
   rw [this] at h5
   rw [← h5] at hd; cases hd
 ·intro x hx h0
  obtain ⟨d, hd⟩ := h.ho x hx h0
  by_cases e : x.1 = c.k
  ·exact ⟨c'.d, mem_setD.2 (.inr ⟨e, rfl, _, hm, rfl, rfl⟩)⟩
  ·exact ⟨d, mem_setD.2 (.inl ⟨hd, e⟩)⟩
theorem hAt_set {hs : List Hd} {a i : Nat} {h' : Hd} (hl : hs.length = 128) (ha : a < 8) (hi : i < 16) : hAt (hs.set (16 * a + i) h') = setH (hAt hs) (a : Int) ((i : Int) + 1) (if h'.1 = [] then none else some h') := by
 funext who n
 unfold setH
 by_cases e : who = (a : Int) ∧ n = (i : Int) + 1
 ·obtain ⟨rfl, rfl⟩ := e
  rw [if_pos ⟨rfl, rfl⟩, hAt_at ha hi, List.getElem?_set_self (by omega)]
 ·rw [if_neg e]
  unfold hAt
  by_cases e2 : 0 ≤ who ∧ who < 8 ∧ 1 ≤ n ∧ n ≤ 16
  ·rw [if_pos e2, if_pos e2, List.getElem?_set_ne (fun h => e (by omega))]
  ·rw [if_neg e2, if_neg e2]
theorem FR.hset {a i : Nat} {h' : Hd} (h : FR base S l hf) (ha : a < 8) (hi : i < 16) (hm : h'.1 ≠ [] → ∃ d, (h'.1, false, d) ∈ l) : FR base { S with hs := S.hs.set (16 * a + i) h' } l (setH hf (a : Int) ((i : Int) + 1) (if h'.1 = [] then none else some h')) :=
 { h with
  hl := by simpa using h.hl
  hh := by rw [h.hh]; exact (hAt_set h.hl ha hi).symm
  ho := fun x hx h0 => by
   rcases List.mem_or_eq_of_mem_set hx with h1 | rfl
   ·exact h.ho x h1 h0
   ·exact hm h0 }
theorem FR.at_ {a i : Nat} {x : Hd} (h : FR base S l hf) (ha : a < 8) (hi : i < 16) (hq : S.hs[16 * a + i]? = some x) (h0 : x.1 ≠ []) : hf (a : Int) ((i : Int) + 1) = some x := by rw [h.hh]; exact hAt_some ha hi hq h0
theorem FR.tree {E' : List Ent} {l' : List Raw} (h : FR base S l hf) (ht : TR E' (bareL l')) (hf' : ∀ p d, (p, false, d) ∈ l' ↔ (p, false, d) ∈ l) (hd : ∀ z ∈ l', z.2.1 = true → z.2.2 = []) (hu : usedL l' ≤ 262144) : FR base { S with E := E' } l' hf :=
 { h with
  tr := ht
  cl := fun p d => by rw [hf']; exact h.cl p d
  dd := hd
  us := hu
  ho := fun x hx h0 => let ⟨d, hm⟩ := h.ho x hx h0; ⟨d, (hf' _ _).2 hm⟩ }
theorem sizedB_len {n : Nat} : (sizedB d n).length = n := by unfold sizedB; rw [List.length_append, List.length_take, List.length_replicate]; omega
end
end Go.Proofs.Ytebfjdolgchgaaa

namespace Go.Fw
open Go Go.RowKit
set_option linter.unusedVariables false
set_option linter.unusedSimpArgs false

section
variable {P : Program} {w : World} {v : Value} {m n : Nat} {cs : List Value}
end

end Go.Fw

namespace Go.Proofs.Ytebfjdolgchgaaa
open Go Go.Fw Go.RowKit
set_option linter.unusedVariables false
set_option linter.unusedSimpArgs false

section
variable {S0 : Nat → Prop} {w0 w : World} {X F B L R : List (Nat × Obj)}
end
section
variable {base : BaseF} {bf : Nat} {bv : Value} {w00 w' : World} {Lb L : List (Nat × Obj)} {S : FSt} {l : List Raw} {hf : HF} {e : Int} {st : St3}
end
theorem overB_len {b d : List UInt8} {a : Nat} (h : a + d.length ≤ b.length) : (overB b d a).length = b.length := by
 unfold overB
 rw [List.length_append, List.length_append, List.length_take, List.length_drop]; omega
theorem writeB_len {b d : List UInt8} {a : Nat} : (writeB b d a).length = max b.length (a + d.length) := by
 unfold writeB
 rw [overB_len (by rw [sizedB_len]; omega), sizedB_len]
end Go.Proofs.Ytebfjdolgchgaaa

namespace Go.Proofs.Ytebfjdolgchgaaa
open Go Go.Fw Go.RowKit
set_option linter.unusedVariables false
set_option linter.unusedSimpArgs false

section
variable {S0 : Nat → Prop} {w0 w : World} {X T B L R : List (Nat × Obj)} {bf u : Nat} {bv : Value} {S : FSt} {E' : List Ent}
end
theorem withR_perm (l : List Raw) (x : Raw) : (withR l x).Perm (x :: l) := by
 unfold withR
 have e := List.takeWhile_append_dropWhile (p := fun y : Raw => decide (compareP y.1 x.1 < 0)) (l := l)
 conv => rhs; rw [← e]
 exact List.perm_middle
theorem usedL_with (l : List Raw) (x : Raw) : usedL (withR l x) = x.2.2.length + usedL l := by rw [usedL_perm (withR_perm l x), usedL_cons]
section
variable {base : BaseF} {S : FSt} {l : List Raw} {hf : HF} {c c' : Con} {p q d b : List UInt8} {E' : List Ent} {om' : Obj}
theorem FR.mkdir (h : FR base S l hf) (ht : TR E' (bareL (mkdirL l p).1)) : FR base { S with E := E' } (mkdirL l p).1 hf ∧ usedL (mkdirL l p).1 = usedL l := by
 by_cases h0 : (mkdirL l p).2 = 0
 ·have hl' : (mkdirL l p).1 = withR l (p, true, []) := by
   unfold mkdirL at h0 ⊢
   split
   ·rename_i h1
    rw [if_pos h1] at h0
    split
    ·rename_i h2; rw [if_pos h2] at h0; cases h0
    ·rename_i h2
     rw [if_neg h2] at h0
     split
     ·rename_i h3; rw [if_pos h3] at h0; cases h0
     ·rfl
   ·rename_i h1; rw [if_neg h1] at h0; exact absurd h0 h1
  rw [hl'] at ht ⊢
  have hu : usedL (withR l (p, true, [])) = usedL l := by rw [usedL_with]; simp
  refine ⟨h.tree ht (fun q d => ?_) (fun z hz hd => ?_) (by rw [hu]; exact h.us), hu⟩
  ·rw [withR_mem]
   exact ⟨fun h => h.elim (fun e => by cases e) id, .inr⟩
  ·rcases withR_mem.1 hz with rfl | hz
   ·rfl
   ·exact h.dd z hz hd
 ·rw [mkdirL_bad h0] at ht ⊢
  exact ⟨h.tree ht (fun _ _ => Iff.rfl) h.dd h.us, rfl⟩
theorem FR.gone (h : FR base S l hf) (hm : (p, false, d) ∈ l) : (removeL l p).2 = 0 := by
 have hm' : (p, false, ([] : List UInt8)) ∈ bareL l := List.mem_map.2 ⟨_, hm, rfl⟩
 have hf := h.tr.find_row hm'
 obtain ⟨r1, r2, r3, r4⟩ := h.tr.row hm'
 have hb : busyL (bareL l) p = false := by
  cases hb : busyL (bareL l) p with
  | false => rfl
  | true =>
   have := (busy_iff h.tr.ti.gi h.tr.rel r1).1 hb
   exfalso
   apply this
   intro t
   simp only at r3 ⊢
   cases hg : absE S.E (splitN p ++ [t]) with
   | none => rfl
   | some v =>
    obtain ⟨b, n, h1, _⟩ := h.tr.ti.gi.pre hg (by simp)
    rw [r3] at h1; cases h1
 have h2 : (removeL (bareL l) p).2 = 0 := by
  unfold removeL
  rw [if_pos (by rw [hf]), if_neg r4, if_neg (by rw [hb]; simp)]
 rw [bare_remove] at h2
 exact h2
theorem remove_row (h0 : (removeL l p).2 = 0) : p ≠ [] ∧ (findL l p).2 = 0 ∧ (removeL l p).1 = l.eraseIdx (atR l p).toNat := by
 unfold removeL at h0 ⊢
 split
 ·rename_i h1
  rw [if_pos h1] at h0
  split
  ·rename_i h2; rw [if_pos h2] at h0; cases h0
  ·rename_i h2
   rw [if_neg h2] at h0
   split
   ·rename_i h3; rw [if_pos h3] at h0; cases h0
   ·exact ⟨h2, h1, rfl⟩
 ·rename_i h1; rw [if_neg h1] at h0; exact absurd h0 h1
theorem erase_perm {j : Nat} {x : Raw} (hx : l[j]? = some x) : (x :: l.eraseIdx j).Perm l := by
 conv => rhs; rw [split_at hx]
 rw [List.eraseIdx_eq_take_drop_succ]
 exact List.perm_middle.symm
theorem mem_erase {j : Nat} {x y : Raw} (hn : (l.map (·.1)).Nodup) (hx : l[j]? = some x) : y ∈ l.eraseIdx j ↔ y ∈ l ∧ y.1 ≠ x.1 := by
 have hp := erase_perm hx
 have hn2 : ((x :: l.eraseIdx j).map (·.1)).Nodup := ((hp.map (·.1)).nodup_iff).2 hn
 simp only [List.map_cons, List.nodup_cons] at hn2
 rw [← hp.mem_iff, List.mem_cons]
 constructor
 ·intro hy
  exact ⟨.inr hy, fun e => hn2.1 (e ▸ List.mem_map.2 ⟨y, hy, rfl⟩)⟩
 ·rintro ⟨rfl | hy, hne⟩
  ·exact absurd rfl hne
  ·exact hy
theorem row_of {x : Raw} (hx : x ∈ l) (hn : (l.map (·.1)).Nodup) : ∃ j : Nat, l[j]? = some x ∧ atR l x.1 = (j : Int) := by
 obtain ⟨j, hj, rfl⟩ := List.getElem_of_mem hx
 refine ⟨j, List.getElem?_eq_getElem hj, atR_some (List.getElem?_eq_getElem hj) rfl fun y hy e => ?_⟩
 obtain ⟨i, hi, rfl⟩ := List.mem_take_iff_getElem.1 hy
 have hi2 : i < j := by omega
 have : (l.map (·.1))[i]'(by simp; omega) = (l.map (·.1))[j]'(by simpa using hj) := by simpa using e
 have := (List.getElem_inj hn).1 this
 omega
theorem cmap_filter (hn : (S.C.map (·.k)).Nodup) : cmap (S.C.filter fun c => decide (c.k ≠ p)) = setF (cmap S.C) p none := by
 funext q
 unfold setF
 by_cases e : q = p
 ·subst e
  rw [if_pos rfl]
  have : cget (S.C.filter fun c => decide (c.k ≠ q)) q = none := by
   unfold cget
   rw [List.find?_eq_none]
   intro x hx
   have := (List.mem_filter.1 hx).2
   simpa using this
  unfold cmap; rw [this]; rfl
 ·rw [if_neg e]
  have : cget (S.C.filter fun c => decide (c.k ≠ p)) q = cget S.C q := by
   unfold cget
   rw [List.find?_filter]
   congr 1
   funext x
   by_cases h : x.k = q
   ·subst h; simp [e]
   ·simp [h]
  unfold cmap; rw [this]
theorem FR.remove (h : FR base S l hf) (h0 : (removeL l p).2 = 0) (ht : TR E' (bareL (removeL l p).1)) (hop : ∀ x ∈ S.hs, x.1 ≠ p) (hm : MapF strV om' (setF (cmap S.C) p none)) :
  FR base { S with E := E', om := om', C := S.C.filter fun c => decide (c.k ≠ p) } (removeL l p).1 hf ∧ usedL (removeL l p).1 + (fileB l p).length = usedL l := by
 obtain ⟨hp0, hf0, hl'⟩ := remove_row h0
 obtain ⟨x, hx, rfl⟩ := findL_mem hf0 hp0
 obtain ⟨j, hj, hat⟩ := row_of hx h.names
 rw [hl', hat, Int.toNat_natCast] at ht ⊢
 have hmem : ∀ y, y ∈ l.eraseIdx j ↔ y ∈ l ∧ y.1 ≠ x.1 := fun y => mem_erase h.names hj
 have hus : usedL (l.eraseIdx j) + (fileB l x.1).length = usedL l := by
  have h1 := usedL_perm (erase_perm hj)
  rw [usedL_cons] at h1
  have h2 : (fileB l x.1).length = x.2.2.length := by
   unfold fileB fileD
   rw [find_nd h.names hx]
   simp only
   split
   ·rename_i hd; rw [h.dd _ hx hd]; rfl
   ·rfl
  omega
 refine ⟨⟨ht, ?_, ?_, ?_, ?_, ?_, by have := h.us; omega, h.hl, h.hh, ?_⟩, hus⟩
 ·show MapF strV om' (cmap (S.C.filter fun c => decide (c.k ≠ x.1)))
  rw [cmap_filter h.cn]; exact hm
 ·exact ((List.filter_sublist).map _).nodup h.cn
 ·intro c hc; exact h.ok c (List.mem_filter.1 hc).1
 ·intro q d
  rw [hmem, h.cl]
  constructor
  ·rintro ⟨⟨c, hc, h1, h2⟩, hne⟩
   exact ⟨c, List.mem_filter.2 ⟨hc, by simpa [h1] using hne⟩, h1, h2⟩
  ·rintro ⟨c, hc, h1, h2⟩
   obtain ⟨g1, g2⟩ := List.mem_filter.1 hc
   exact ⟨⟨c, g1, h1, h2⟩, by rw [← h1]; simpa using g2⟩
 ·intro z hz hd; exact h.dd z ((hmem z).1 hz).1 hd
 ·intro y hy hy0
  obtain ⟨d, hd⟩ := h.ho y hy hy0
  exact ⟨d, (hmem _).2 ⟨hd, hop y hy⟩⟩
theorem FR.put (h : FR base S l hf) (hnone : ∀ y ∈ l, y.1 ≠ p) (hb : c.k = p) (hd : c.d = []) (hOK : c.OK base) (ht : TR E' (bareL (withR l (p, false, [])))) (hm : MapF strV om' (setF (cmap S.C) p (some (ptr c.b)))) :
  FR base { S with E := E', om := om', C := S.C ++ [c] } (withR l (p, false, [])) hf ∧ usedL (withR l (p, false, [])) = usedL l := by
 have hus : usedL (withR l (p, false, [])) = usedL l := by rw [usedL_with]; simp
 have hno : ∀ x ∈ S.C, x.k ≠ p := fun x hx e => hnone _ (h.row hx) e
 refine ⟨⟨ht, ?_, ?_, ?_, ?_, ?_, by rw [hus]; exact h.us, h.hl, h.hh, ?_⟩, hus⟩
 ·have : cmap (S.C ++ [c]) = setF (cmap S.C) p (some (ptr c.b)) := by
   funext q
   unfold cmap cget setF
   rw [List.find?_append]
   by_cases e : q = p
   ·subst e
    have : S.C.find? (fun c => decide (c.k = q)) = none := List.find?_eq_none.2 fun x hx => by simpa using hno x hx
    rw [this, if_pos rfl]; simp [hb]
   ·rw [if_neg e]
    show ((S.C.find? (fun c => decide (c.k = q))).or _).map _ = (S.C.find? (fun c => decide (c.k = q))).map _
    cases S.C.find? (fun c => decide (c.k = q)) with
    | some x => rfl
    | none =>
     have : ¬ c.k = q := fun h => e (h.symm.trans hb)
     simp [this]
  show MapF strV om' (cmap (S.C ++ [c]))
  rw [this]; exact hm
 ·show ((S.C ++ [c]).map (·.k)).Nodup
  rw [List.map_append, List.nodup_append]
  refine ⟨h.cn, by simp, ?_⟩
  intro a ha b hb' e
  obtain ⟨x, hx, rfl⟩ := List.mem_map.1 ha
  simp only [List.map_cons, List.map_nil, List.mem_singleton] at hb'
  exact hno x hx (e.trans (hb'.trans hb))
 ·intro x hx
  rcases List.mem_append.1 hx with hx | hx
  ·exact h.ok x hx
  ·rw [List.mem_singleton.1 hx]; exact hOK
 ·intro q d
  rw [withR_mem, h.cl]
  constructor
  ·rintro (e | ⟨x, hx, h1, h2⟩)
   ·simp only [Prod.mk.injEq, true_and] at e
    exact ⟨c, by simp, hb.trans e.1.symm, hd.trans e.2.symm⟩
   ·exact ⟨x, List.mem_append_left _ hx, h1, h2⟩
  ·rintro ⟨x, hx, h1, h2⟩
   rcases List.mem_append.1 hx with hx | hx
   ·exact .inr ⟨x, hx, h1, h2⟩
   ·rw [List.mem_singleton.1 hx, hb] at h1
    rw [List.mem_singleton.1 hx, hd] at h2
    exact .inl (by rw [← h1, ← h2])
 ·intro z hz hd'
  rcases withR_mem.1 hz with rfl | hz
  ·rfl
  ·exact h.dd z hz hd'
 ·intro y hy hy0
  obtain ⟨d, hd⟩ := h.ho y hy hy0
  exact ⟨d, withR_mem.2 (.inr hd)⟩
end
end Go.Proofs.Ytebfjdolgchgaaa

namespace Go.Proofs.Ytebfjdolgchgaaa
open Go Go.Fw Go.RowKit
set_option linter.unusedVariables false
set_option linter.unusedSimpArgs false

def removeS (l : List Raw) (hf : HF) (p : List UInt8) : St3 := if (removeL l p).2 = 0 then (if openB hf p = true then (badS 18, l, hf) else (badS 0, (removeL l p).1, hf)) else (badS (removeL l p).2, l, hf)
def renameS (l : List Raw) (hf : HF) (p q : List UInt8) : St3 := if (cleanP q).2 = 0 then (if (renameL l p (cleanP q).1).2 = 0 then (badS 0, (renameL l p (cleanP q).1).1, movH hf p (cleanP q).1) else (badS (renameL l p (cleanP q).1).2, l, hf)) else (badS (cleanP q).2, l, hf)
section
variable {base : BaseF} {S : FSt} {l : List Raw} {hf : HF} {c : Con} {p : List UInt8} {E' : List Ent} {bf u : Nat} {bv : Value}
end
end Go.Proofs.Ytebfjdolgchgaaa

namespace Go.Proofs.Ytebfjdolgchgaaa
open Go Go.Fw Go.RowKit
set_option linter.unusedVariables false
set_option linter.unusedSimpArgs false

section
variable {base : BaseF} {S : FSt} {l : List Raw} {hf : HF} {c : Con} {p : List UInt8}
theorem FR.found (h : FR base S l hf) {z : Raw} (hz : z ∈ l) : findL l z.1 = (z, 0) := by
 have h1 := h.tr.find_row (z := bareR z) (List.mem_map.2 ⟨z, hz, rfl⟩)
 have h2 : (findL l z.1).2 = 0 := by
  have := congrArg (fun x => x.2) h1
  rw [show (bareR z).1 = z.1 from rfl, bare_findL] at this
  exact this
 by_cases h0 : z.1 = []
 ·have := (h.tr.row (z := bareR z) (List.mem_map.2 ⟨z, hz, rfl⟩)).2.2.2
  exact absurd h0 this
 ·have h3 : (bareR (findL l z.1).1).1 = z.1 := by
   have := congrArg (fun x => x.1.1) h1
   rw [show (bareR z).1 = z.1 from rfl, bare_findL] at this
   exact this
  obtain ⟨w, hw⟩ : ∃ w, (findL l z.1).1 = w := ⟨_, rfl⟩
  have hmem : (findL l z.1).1 ∈ l := by
   unfold findL at h2 ⊢
   split
   ·rename_i hs
    rw [if_pos hs] at h2
    obtain ⟨n, r, hnr⟩ : ∃ n r, splitN z.1 = n :: r := by
     cases hs' : splitN z.1 with
     | nil => exact absurd ((sN_nil hs).1 hs') h0
     | cons n r => exact ⟨n, r, rfl⟩
    rw [hnr] at h2 ⊢
    have key : ∀ (r : NP) (n : List UInt8) (pre : NP) (f : Raw), (findF l pre (n :: r) f).2 = 0 → (findF l pre (n :: r) f).1 ∈ l := by
     intro r
     induction r with
     | nil =>
      intro n pre f h
      unfold findF at h ⊢
      split
      ·rename_i hd
       rw [if_pos hd] at h
       cases hx : l.find? (fun x => decide (x.1 = joinS (pre ++ [n]))) with
       | none => rw [hx] at h; cases h
       | some x => exact List.mem_of_find?_eq_some hx
      ·rename_i hd; rw [if_neg hd] at h; cases h
     | cons m r ih =>
      intro n pre f h
      unfold findF at h ⊢
      split
      ·rename_i hd
       rw [if_pos hd] at h
       cases hx : l.find? (fun x => decide (x.1 = joinS (pre ++ [n]))) with
       | none => rw [hx] at h; cases h
       | some x => rw [hx] at h; exact ih m _ x h
      ·rename_i hd; rw [if_neg hd] at h; cases h
    exact key r n [] _ h2
   ·rename_i hs; rw [if_neg hs] at h2; cases h2
  have := names_inj h.names hmem hz h3
  exact Prod.ext this h2
theorem FR.absent (h : FR base S l hf) (h9 : (findL l p).2 = 9) : ∀ y ∈ l, y.1 ≠ p := fun y hy e => by
 rw [← e, h.found hy] at h9; cases h9
theorem put_new {b : List UInt8} (hn : ∀ y ∈ l, y.1 ≠ p) (h0 : (putL l p b).2 = 0) : (putL l p b).1 = withR l (p, false, b) := by
 have hf : l.find? (fun x => decide (x.1 = p)) = none := List.find?_eq_none.2 fun y hy => by simpa using hn y hy
 unfold putL at h0 ⊢
 rw [hf] at h0 ⊢
 split
 ·rename_i h1
  rw [if_pos h1] at h0
  simp only at h0 ⊢
  split
  ·rename_i h2; rw [if_pos h2] at h0; cases h0
  ·rename_i h2
   rw [if_neg h2] at h0
   split
   ·rename_i h3; rw [if_pos h3] at h0; cases h0
   ·rfl
 ·rename_i h1; rw [if_neg h1] at h0; exact absurd h0 h1
end
section
variable {S0 : Nat → Prop} {w0 w : World} {x y z : Nat × Obj} {F B L L6 : List (Nat × Obj)} {bf u b : Nat} {bv : Value} {S : FSt} {c : Con} {o : Obj}
end
end Go.Proofs.Ytebfjdolgchgaaa

namespace Go.Proofs.Ytebfjdolgchgaaa
open Go Go.Fw Go.RowKit
set_option linter.unusedVariables false
set_option linter.unusedSimpArgs false

theorem mvN_fst (x y : List UInt8) (f : Raw) : (mvN x y f).1 = movP x y f.1 := by unfold mvN movP; split <;> rfl
theorem mvN_eq (x y : List UInt8) (f : Raw) : mvN x y f = (movP x y f.1, f.2) := Prod.ext (mvN_fst x y f) (mvN_snd x y f)
theorem rename_mov {l : List Raw} {x y : List UInt8} (h0 : (renameL l x y).2 = 0) (hne : x ≠ y) : x ≠ [] ∧ (renameL l x y).1 = movL x y l := by
 unfold renameL at h0 ⊢
 split
 ·rename_i h1
  rw [if_pos h1] at h0
  split
  ·rename_i h2; rw [if_pos h2] at h0; cases h0
  ·rename_i h2
   rw [if_neg h2] at h0
   refine ⟨h2, ?_⟩
   split
   ·rename_i h3
    rw [if_pos h3, if_neg hne] at h0
    try rw [if_neg hne]
    split
    ·rename_i h4; rw [if_pos h4] at h0; cases h0
    ·rename_i h4
     rw [if_neg h4] at h0
     split
     ·rename_i h5; rw [if_pos h5] at h0; cases h0
     ·rename_i h5
      rw [if_neg h5] at h0
      split
      ·rename_i h6; rw [if_pos h6] at h0; cases h0
      ·rfl
   ·rename_i h3; rw [if_neg h3] at h0; exact absurd h0 h3
 ·rename_i h1; rw [if_neg h1] at h0; exact absurd h0 h1
def movC (x y : List UInt8) (c : Con) : Con := { c with k := movP x y c.k }
def movHd (x y : List UInt8) (h : Hd) : Hd := if h.1 ≠ [] ∧ underP h.1 x = true then (y ++ h.1.drop x.length, h.2) else h
def MovM (C : List Con) (x y : List UInt8) (vis : List (List UInt8)) (g : List UInt8 → Option Value) : Prop := ∀ q v, g q = some v ↔ ∃ k ∈ vis, ∃ c, cget C k = some c ∧ movP x y k = q ∧ v = ptr c.b
section
variable {base : BaseF} {S : FSt} {l : List Raw} {hf : HF} {c : Con} {x y k : List UInt8} {E' : List Ent} {om' : Obj} {vis : List (List UInt8)} {g : List UInt8 → Option Value}
theorem MovM.nil (C : List Con) (x y : List UInt8) : MovM C x y [] (fun _ => none) := fun q v => ⟨fun h => (by cases h), fun ⟨k, hk, _⟩ => (by cases hk)⟩
theorem FR.mvinj (h : FR base S l hf) (h0 : (renameL l x y).2 = 0) (hne : x ≠ y) {f f' : Raw} (hf : f ∈ l) (hf' : f' ∈ l) (e : movP x y f.1 = movP x y f'.1) : f.1 = f'.1 := by
 have hb0 : (renameL (bareL l) x y).2 = 0 := by rw [bare_rename]; exact h0
 obtain ⟨m, _⟩ := mv_ok h.tr hb0 hne
 have h1 := (mv_back h.tr m (f := bareR f) (List.mem_map.2 ⟨f, hf, rfl⟩)).1
 have h2 := (mv_back h.tr m (f := bareR f') (List.mem_map.2 ⟨f', hf', rfl⟩)).1
 have h1 := congrArg (·.1) h1
 have h2 := congrArg (·.1) h2
 simp only [mvN_fst] at h1 h2
 have e1 : (bareR f).1 = f.1 := rfl
 have e2 : (bareR f').1 = f'.1 := rfl
 rw [e1] at h1
 rw [e2] at h2
 rw [← h1, e, h2]
theorem FR.movM (h : FR base S l hf) (h0 : (renameL l x y).2 = 0) (hne : x ≠ y) (hM : MovM S.C x y vis g) (hall : ∀ k, cmap S.C k ≠ none → k ∈ vis) : g = cmap (S.C.map (movC x y)) := by
 have hnd : ((S.C.map (movC x y)).map (·.k)).Nodup := by
  rw [List.map_map]
  have : ∀ {C : List Con}, (∀ c ∈ C, c ∈ S.C) → (C.map (·.k)).Nodup → (C.map ((·.k) ∘ movC x y)).Nodup := by
   intro C
   induction C with
   | nil => intro _ _; simp
   | cons c C ih =>
    intro hs hn
    simp only [List.map_cons, List.nodup_cons] at hn ⊢
    refine ⟨fun hm => ?_, ih (fun c hc => hs c (List.mem_cons_of_mem _ hc)) hn.2⟩
    obtain ⟨c', hc', e⟩ := List.mem_map.1 hm
    have e : movP x y c'.k = movP x y c.k := e
    have := h.mvinj h0 hne (h.row (hs c' (List.mem_cons_of_mem _ hc'))) (h.row (hs c List.mem_cons_self)) e
    exact hn.1 (List.mem_map.2 ⟨c', hc', this⟩)
  exact this (fun c hc => hc) h.cn
 funext q
 have key : ∀ v, g q = some v ↔ cmap (S.C.map (movC x y)) q = some v := by
  intro v
  rw [hM]
  constructor
  ·rintro ⟨k, hk, c, h1, rfl, rfl⟩
   obtain ⟨hc, rfl⟩ := cget_mem h1
   have := cget_of hnd (List.mem_map.2 ⟨c, hc, rfl⟩)
   unfold cmap
   rw [show (movC x y c).k = movP x y c.k from rfl] at this
   rw [this]; rfl
  ·intro hv
   unfold cmap at hv
   cases hg : cget (S.C.map (movC x y)) q with
   | none => rw [hg] at hv; cases hv
   | some c' =>
    rw [hg] at hv
    obtain ⟨hc', hk'⟩ := cget_mem hg
    obtain ⟨c, hc, rfl⟩ := List.mem_map.1 hc'
    have hcg := cget_of h.cn hc
    exact ⟨c.k, hall _ (by unfold cmap; rw [hcg]; simp), c, hcg, hk', (Option.some.inj hv).symm⟩
 cases hgq : g q with
 | none =>
  cases hcq : cmap (S.C.map (movC x y)) q with
  | none => rfl
  | some v => rw [(key v).2 hcq] at hgq; cases hgq
 | some v => exact ((key v).1 hgq).symm
theorem movP_ne (hx : x ≠ []) (hy : y ≠ []) (hk : k ≠ []) : movP x y k ≠ [] := by
 unfold movP
 split
 ·intro e; exact hy (List.append_eq_nil_iff.1 e).1
 ·exact hk
theorem movHd_eq {h : Hd} (h0 : h.1 ≠ []) : movHd x y h = (movP x y h.1, h.2) := by
 unfold movHd movP
 by_cases e : underP h.1 x = true
 ·rw [if_pos ⟨h0, e⟩, if_pos e]
 ·rw [if_neg (fun h => e h.2), if_neg e]
theorem movHd_nil {h : Hd} (h0 : h.1 = []) : movHd x y h = h := by unfold movHd; rw [if_neg (fun h => h.1 h0)]
theorem FR.rename {bm : Nat} (h : FR base S l hf) (h0 : (renameL l x y).2 = 0) (hne : x ≠ y) (hy : y ≠ []) (ht : TR E' (bareL (renameL l x y).1)) (hm : MapF strV om' g) (hM : MovM S.C x y vis g) (hall : ∀ k, cmap S.C k ≠ none → k ∈ vis) :
  FR base { S with E := E', bm := bm, om := om', C := S.C.map (movC x y), hs := S.hs.map (movHd x y) } (renameL l x y).1 (movH hf x y) ∧ usedL (renameL l x y).1 = usedL l := by
 obtain ⟨hx, hl'⟩ := rename_mov h0 hne
 have hg := h.movM h0 hne hM hall
 have hn' : ((renameL l x y).1.map (·.1)).Nodup := by have := srt_names ht.rel.srt; rwa [bare_names'] at this
 rw [hl'] at ht hn' ⊢
 have hinj : ∀ {f f' : Raw}, f ∈ l → f' ∈ l → movP x y f.1 = movP x y f'.1 → f = f' := fun hf hf' e => names_inj h.names hf hf' (h.mvinj h0 hne hf hf' e)
 have hus : usedL (movL x y l) = usedL l := by
  have hp : (movL x y l).Perm (l.map (mvN x y)) := by
   have hnd1 : (movL x y l).Nodup := by
    have := hn'
    exact (List.Pairwise.of_map (fun x : Raw => x.1) (fun a b hab e => hab (by rw [e])) this)
   have hnd2 : (l.map (mvN x y)).Nodup := by
    have hnl : l.Nodup := List.Pairwise.of_map (fun x : Raw => x.1) (fun a b hab e => hab (by rw [e])) h.names
    have : ∀ {m : List Raw}, (∀ z ∈ m, z ∈ l) → m.Nodup → (m.map (mvN x y)).Nodup := by
     intro m
     induction m with
     | nil => intro _ _; simp
     | cons z m ih =>
      intro hs hn
      simp only [List.map_cons, List.nodup_cons] at hn ⊢
      refine ⟨fun hm => ?_, ih (fun z hz => hs z (List.mem_cons_of_mem _ hz)) hn.2⟩
      obtain ⟨w, hw, e⟩ := List.mem_map.1 hm
      have := hinj (hs w (List.mem_cons_of_mem _ hw)) (hs z List.mem_cons_self) (by have := congrArg (·.1) e; simpa only [mvN_fst] using this)
      exact hn.1 (this ▸ hw)
    exact this (fun z hz => hz) hnl
   exact (List.perm_ext_iff_of_nodup hnd1 hnd2).2 fun z => by
    rw [mv_mem, List.mem_map]
    exact ⟨fun ⟨f, h1, h2⟩ => ⟨f, h1, h2.symm⟩, fun ⟨f, h1, h2⟩ => ⟨f, h1, h2.symm⟩⟩
  rw [usedL_perm hp]
  unfold usedL
  rw [List.map_map]
  congr 1
  apply List.map_congr_left
  intro z _
  show (mvN x y z).2.2.length = _
  rw [mvN_snd]
 have hmem : ∀ q d, (q, false, d) ∈ movL x y l ↔ ∃ p, (p, false, d) ∈ l ∧ movP x y p = q := by
  intro q d
  rw [mv_mem]
  constructor
  ·rintro ⟨f, hf, e⟩
   rw [mvN_eq] at e
   obtain ⟨a, b⟩ := f
   simp only [Prod.mk.injEq] at e
   obtain ⟨rfl, rfl⟩ := e
   exact ⟨a, hf, rfl⟩
  ·rintro ⟨p, hp, rfl⟩
   exact ⟨_, hp, by rw [mvN_eq]⟩
 refine ⟨⟨ht, ?_, ?_, ?_, ?_, ?_, by rw [hus]; exact h.us, by simpa using h.hl, ?_, ?_⟩, hus⟩
 ·show MapF strV om' (cmap (S.C.map (movC x y)))
  rw [← hg]; exact hm
 ·show ((S.C.map (movC x y)).map (·.k)).Nodup
  rw [List.map_map]
  have : ∀ {C : List Con}, (∀ c ∈ C, c ∈ S.C) → (C.map (·.k)).Nodup → (C.map ((·.k) ∘ movC x y)).Nodup := by
   intro C
   induction C with
   | nil => intro _ _; simp
   | cons c C ih =>
    intro hs hn
    simp only [List.map_cons, List.nodup_cons] at hn ⊢
    refine ⟨fun hm => ?_, ih (fun c hc => hs c (List.mem_cons_of_mem _ hc)) hn.2⟩
    obtain ⟨c', hc', e⟩ := List.mem_map.1 hm
    have e : movP x y c'.k = movP x y c.k := e
    have := h.mvinj h0 hne (h.row (hs c' (List.mem_cons_of_mem _ hc'))) (h.row (hs c List.mem_cons_self)) e
    exact hn.1 (List.mem_map.2 ⟨c', hc', this⟩)
  exact this (fun c hc => hc) h.cn
 ·intro c hc
  obtain ⟨c0, hc0, rfl⟩ := List.mem_map.1 hc
  have := h.ok c0 hc0
  exact ⟨this.le, this.own, this.bas⟩
 ·intro q d
  rw [hmem]
  constructor
  ·rintro ⟨p, hp, rfl⟩
   obtain ⟨c, hc, rfl, rfl⟩ := (h.cl p d).1 hp
   exact ⟨movC x y c, List.mem_map.2 ⟨c, hc, rfl⟩, rfl, rfl⟩
  ·rintro ⟨c', hc', rfl, rfl⟩
   obtain ⟨c, hc, rfl⟩ := List.mem_map.1 hc'
   exact ⟨c.k, h.row hc, rfl⟩
 ·intro z hz hd
  obtain ⟨f, hf, rfl⟩ := mv_mem.1 hz
  rw [mvN_snd] at hd ⊢
  exact h.dd f hf hd
 ·rw [h.hh]
  funext who n
  show (hAt S.hs who n).map (fun v => (movP x y v.1, v.2)) = hAt (S.hs.map (movHd x y)) who n
  unfold hAt
  by_cases e : 0 ≤ who ∧ who < 8 ∧ 1 ≤ n ∧ n ≤ 16
  ·rw [if_pos e, if_pos e, List.getElem?_map]
   cases S.hs[16 * who.toNat + (n - 1).toNat]? with
   | none => rfl
   | some v =>
    simp only [Option.map_some]
    by_cases e2 : v.1 = []
    ·rw [if_pos e2, movHd_nil e2, if_pos e2]; rfl
    ·rw [if_neg e2, movHd_eq e2, if_neg (movP_ne hx hy e2)]; rfl
  ·rw [if_neg e, if_neg e]; rfl
 ·intro v hv hv0
  obtain ⟨u, hu, rfl⟩ := List.mem_map.1 hv
  by_cases e2 : u.1 = []
  ·rw [movHd_nil e2] at hv0; exact absurd e2 hv0
  ·rw [movHd_eq e2]
   obtain ⟨d, hd⟩ := h.ho u hu e2
   exact ⟨d, (hmem _ _).2 ⟨u.1, hd, rfl⟩⟩
end
end Go.Proofs.Ytebfjdolgchgaaa

namespace Go.Proofs.Ytebfjdolgchgaaa
open Go Go.Fw Go.RowKit
set_option linter.unusedVariables false
set_option linter.unusedSimpArgs false

section
variable {hs : List Hd} {x y : List UInt8} {n : Nat} {h : Hd}
end
section
variable {S0 : Nat → Prop} {w0 w : World} {it x y : Nat × Obj} {T : List (Nat × Obj)} {bf u bm : Nat} {bv : Value} {S : FSt} {om : Obj}
end
theorem under_self {x q : List UInt8} (h : underP q x = true) : ∃ t, q = x ++ t := by
 obtain ⟨h1, h2, c, hc⟩ := under_facts h
 rw [namesP_splitN h1, namesP_splitN h2] at hc
 have e1 := joinS_splitN h1
 have e2 := joinS_splitN h2
 by_cases h0 : splitN x = []
 ·have : x = [] := (sN_nil h2).1 h0
  exact ⟨q, by rw [this]; rfl⟩
 ·rw [hc, joinS_cat h0, e2] at e1
  exact ⟨_, e1.symm⟩
theorem movP_self (x q : List UInt8) : movP x x q = q := by
 unfold movP
 split
 ·rename_i h
  obtain ⟨t, rfl⟩ := under_self h
  simp
 ·rfl
end Go.Proofs.Ytebfjdolgchgaaa

namespace Go.Proofs.Ytebfjdolgchgaaa
open Go Go.Fw Go.RowKit
set_option linter.unusedVariables false
set_option linter.unusedSimpArgs false

def intCs (l : List Nat) : List Value := l.map fun (n : Nat) => .int .i64 (n : Int)
abbrev IntsO (L : List (Nat × Obj)) (v : Value) (l : List Nat) : Prop := OwL L v 1 l.length (intCs l)
theorem intCs_one (l : List Nat) : ∀ u ∈ intCs l, u.oneCell' = true := by
 intro u hu; obtain ⟨x, _, rfl⟩ := List.mem_map.1 hu; rfl
theorem intsO_snoc {L : List (Nat × Obj)} {v : Value} {l : List Nat} {n : Nat} (h : OwL L v 1 (l.length + 1) (intCs l ++ [.int .i64 (n : Int)])) : IntsO L v (l ++ [n]) := by
 have e : intCs (l ++ [n]) = intCs l ++ [.int .i64 (n : Int)] := by simp [intCs]
 show OwL L v 1 (l ++ [n]).length (intCs (l ++ [n]))
 rw [e, List.length_append]; exact h
def openN (hf : HF) (who : Int) (n : Nat) : List Nat := ((List.range n).filter fun (i : Nat) => (hf who ((i : Int) + 1)).isSome).map (· + 1)
def openL (hf : HF) (who : Int) : List Nat := openN hf who 16
theorem openN_len (hf : HF) (who : Int) (n : Nat) : (openN hf who n).length ≤ n := by
 unfold openN
 rw [List.length_map]
 exact Nat.le_trans (List.length_filter_le _ _) (by simp)
theorem openN_yes {hf : HF} {who : Int} {n : Nat} (h : (hf who ((n : Int) + 1)).isSome = true) : openN hf who (n + 1) = openN hf who n ++ [n + 1] := by
 unfold openN
 rw [List.range_succ, List.filter_append, List.map_append, List.filter_cons_of_pos (p := fun (i : Nat) => (hf who ((i : Int) + 1)).isSome) (by simpa using h)]; rfl
theorem openN_no {hf : HF} {who : Int} {n : Nat} (h : (hf who ((n : Int) + 1)).isSome = false) : openN hf who (n + 1) = openN hf who n := by
 unfold openN
 rw [List.range_succ, List.filter_append, List.map_append, List.filter_cons_of_neg (p := fun (i : Nat) => (hf who ((i : Int) + 1)).isSome) (by simp [h])]; simp
section
variable {base : BaseF} {S : FSt} {l : List Raw} {hf : HF} {i : Nat} {x : Raw}
end
end Go.Proofs.Ytebfjdolgchgaaa

namespace Go.Proofs.Ytebfjdolgchgaaa
open Go Go.Fw Go.RowKit
set_option linter.unusedVariables false
set_option linter.unusedSimpArgs false

abbrev Mt := List UInt8 × Bool × Int
def mCs (ml : List Mt) : List Value := ml.flatMap fun m => [strV m.1, .bool m.2.1, .int .i64 m.2.2]
def MetasAt (w : World) (v : Value) (ml : List Mt) : Prop := Sg w v 3 ml.length (mCs ml)
noncomputable def newS (l : List Raw) : List Raw × Int := if l.any (fun x => decide (65536 < x.2.2.length)) = true then ([], 3) else if (ofL (bareL l)).2 ≠ 0 then ([], (ofL (bareL l)).2) else if 262144 < usedL l then ([], 7) else ((ofL l).1, 0)
section
variable {w w1 : World} {v : Value} {ml : List Mt} {p : Option Addr} {b off len cap j : Nat} {m : Mt}
theorem MetasAt.new (h : MetasAt w v ml) (hn : New w w1) : MetasAt w1 v ml := Sg.new h hn
theorem MetasAt.blk (h : MetasAt w (.slice p len cap) ml) (hj : j < ml.length) : ∃ b off, p = some ⟨b, off, none⟩ ∧ len = ml.length := Sg.blk (j := j) h hj
theorem MetasAt.row (h : MetasAt w (.slice (some ⟨b, off, none⟩) len cap) ml) (hx : ml[j]? = some m) : RowAt w b (off + j * 3) [strV m.1, .bool m.2.1, .int .i64 m.2.2] := by
 have hj : j < ml.length := (List.getElem?_eq_some_iff.1 hx).1
 obtain ⟨b', off', h6, h7⟩ := MetasAt.blk h hj
 cases h6; subst h7
 exact (Sg.sl h (by omega)).row (j := j) (l := [strV m.1, .bool m.2.1, .int .i64 m.2.2]) rfl (flat_drop (m := 3) (e1 := fun m : Mt => [strV m.1, .bool m.2.1, .int .i64 m.2.2]) (by decide) (fun _ _ => rfl) hx) (by simp)
end
section
variable {l : List Raw} {x : Raw}
def OKd (l : List Raw) : Prop := ∀ x ∈ l, x.2.2.length ≤ 65536 ∧ (x.2.1 = true → x.2.2 = [])
theorem bare_single (h1 : x.2.2.length ≤ 65536) (h2 : x.2.1 = true → x.2.2 = []) : singleR (bareR x) = singleR x := by
 unfold singleR
 show (if splitE x.1 = 0 ∧ splitN x.1 ≠ [] then (if x.2.1 = true ∧ ([] : List UInt8) ≠ [] then (16 : Int) else if 65536 < ([] : List UInt8).length then 3 else 0) else 8) = _
 split
 ·rw [if_neg (fun h => h.2 rfl), if_neg (by simp), if_neg (fun h => h.2 (h2 h.1)), if_neg (by omega)]
 ·rfl
theorem bare_first (h : OKd l) : firstR (bareL l) = firstR l := by
 unfold firstR bareL
 have : ∀ {m : List Raw}, OKd m → (m.map bareR).find? (fun x => decide (singleR x ≠ 0)) = (m.find? (fun x => decide (singleR x ≠ 0))).map bareR := by
  intro m
  induction m with
  | nil => intro _; rfl
  | cons y m ih =>
   intro hm
   have hy := hm y List.mem_cons_self
   have ih := ih (fun z hz => hm z (List.mem_cons_of_mem _ hz))
   rw [List.map_cons, List.find?_cons, List.find?_cons, bare_single hy.1 hy.2]
   split
   ·rfl
   ·exact ih
 rw [this h]
 cases hx : l.find? (fun x => decide (singleR x ≠ 0)) with
 | none => rfl
 | some y =>
  have hm := h y (List.mem_of_find?_eq_some hx)
  exact bare_single hm.1 hm.2
theorem bare_fold : ∀ (l A : List Raw), (bareL l).foldl withR (bareL A) = bareL (l.foldl withR A)
 | [], A => rfl
 | x :: l, A => by
  show (bareL l).foldl withR (withR (bareL A) (bareR x)) = _
  rw [bare_with]
  exact bare_fold l _
theorem bare_fillX (N : NP) (t : List Raw) : ∀ k, fillX N (bareL t) k = bareL (fillX N t k)
 | 0 => rfl
 | k + 1 => by
  unfold fillX
  rw [bare_fillX N t k, bare_at]
  split
  ·rfl
  ·rw [show ((joinS (N.take (k + 1)), true, []) : Raw) = bareR (joinS (N.take (k + 1)), true, []) from rfl, bare_with]; rfl
theorem bare_fillL : ∀ (l t : List Raw), fillL (bareL l) (bareL t) = bareL (fillL l t)
 | [], t => rfl
 | x :: l, t => by
  show (bareL l).foldl _ (fillX (splitN x.1) (bareL t) _) = _
  rw [bare_fillX]
  exact bare_fillL l _
theorem bare_badL : badL (bareL l) ↔ badL l := by
 have hb : ∀ i, (bareL l)[i]? = (l[i]?).map bareR := fun i => by unfold bareL; rw [List.getElem?_map]
 unfold badL BadAt
 constructor
 ·rintro ⟨i, k, x, y, h1, h2, h3, h4, h5⟩
  rw [hb] at h1 h2
  obtain ⟨x', g1, rfl⟩ := Option.map_eq_some_iff.1 h1
  obtain ⟨y', g2, rfl⟩ := Option.map_eq_some_iff.1 h2
  exact ⟨i, k, x', y', g1, g2, h3, h4, h5⟩
 ·rintro ⟨i, k, x, y, h1, h2, h3, h4, h5⟩
  exact ⟨i, k, bareR x, bareR y, by rw [hb, h1]; rfl, by rw [hb, h2]; rfl, h3, h4, h5⟩
theorem bare_of (h : OKd l) : ofL (bareL l) = (bareL (ofL l).1, (ofL l).2) := by
 have hn : (bareL l).map (·.1) = l.map (·.1) := bare_names' l
 have hf : fillL (bareL l) ((bareL l).foldl withR []) = bareL (fillL l (l.foldl withR [])) := by
  have := bare_fold l []
  rw [show bareL ([] : List Raw) = [] from rfl] at this
  rw [this, bare_fillL]
 unfold ofL
 rw [bare_first h, hn, hf, bare_len, show badL (bareL l) = badL l from propext bare_badL]
 split
 ·rfl
 ·split
  ·rfl
  ·split
   ·rfl
   ·split <;> rfl
theorem fillX_mem {N : NP} {t : List Raw} {y : Raw} : ∀ k, y ∈ fillX N t k → y ∈ t ∨ (y.2.1 = true ∧ y.2.2 = [])
 | 0, h => .inl h
 | k + 1, h => by
  unfold fillX at h
  split at h
  ·exact fillX_mem k h
  ·rcases withR_mem.1 h with rfl | h
   ·exact .inr ⟨rfl, rfl⟩
   ·exact fillX_mem k h
theorem fillX_sub {N : NP} {t : List Raw} {y : Raw} (h : y ∈ t) : ∀ k, y ∈ fillX N t k
 | 0 => h
 | k + 1 => by
  unfold fillX
  split
  ·exact fillX_sub h k
  ·exact withR_mem.2 (.inr (fillX_sub h k))
theorem fillX_used {N : NP} {t : List Raw} : ∀ k, usedL (fillX N t k) = usedL t
 | 0 => rfl
 | k + 1 => by
  unfold fillX
  split
  ·exact fillX_used k
  ·rw [usedL_with, fillX_used k]; simp
theorem fillL_mem {y : Raw} : ∀ {l t : List Raw}, y ∈ fillL l t → y ∈ t ∨ (y.2.1 = true ∧ y.2.2 = [])
 | [], t, h => .inl h
 | x :: l, t, h => by
  rcases fillL_mem (l := l) h with h | h
  ·exact fillX_mem _ h
  ·exact .inr h
theorem fillL_sub {y : Raw} : ∀ {l t : List Raw}, y ∈ t → y ∈ fillL l t
 | [], t, h => h
 | x :: l, t, h => fillL_sub (l := l) (fillX_sub h _)
theorem fillL_used : ∀ {l t : List Raw}, usedL (fillL l t) = usedL t
 | [], t => rfl
 | x :: l, t => by
  show usedL (fillL l _) = _
  rw [fillL_used (l := l), fillX_used]
theorem fold_used : ∀ {l A : List Raw}, usedL (l.foldl withR A) = usedL l + usedL A
 | [], A => by simp [usedL]
 | x :: l, A => by
  show usedL (l.foldl withR (withR A x)) = _
  rw [fold_used, usedL_with, usedL_cons]; omega
theorem of_facts (h0 : (ofL l).2 = 0) (hd : OKd l) : (l.map (·.1)).Nodup ∧ usedL (ofL l).1 = usedL l ∧ (∀ p d, (p, false, d) ∈ (ofL l).1 ↔ (p, false, d) ∈ l) ∧ ∀ z ∈ (ofL l).1, z.2.1 = true → z.2.2 = [] := by
 unfold ofL at h0 ⊢
 split
 ·rename_i h1; rw [if_pos h1] at h0; exact absurd h0 h1
 ·rename_i h1
  rw [if_neg h1] at h0
  split
  ·rename_i h2; rw [if_pos h2] at h0; cases h0
  ·rename_i h2
   rw [if_neg h2] at h0
   split
   ·rename_i h3; rw [if_pos h3] at h0; cases h0
   ·rename_i h3
    rw [if_neg h3] at h0
    split
    ·rename_i h4; rw [if_pos h4] at h0; cases h0
    ·refine ⟨Classical.not_not.1 h2, by rw [fillL_used, fold_used]; simp [usedL], fun p d => ⟨fun h => ?_, fun h => fillL_sub (fold_mem.2 h)⟩, fun z hz hzd => ?_⟩
     ·rcases fillL_mem h with h | ⟨h, _⟩
      ·exact fold_mem.1 h
      ·cases h
     ·rcases fillL_mem hz with h | ⟨_, h⟩
      ·exact (hd z (fold_mem.1 h)).2 hzd
      ·exact h
end
end Go.Proofs.Ytebfjdolgchgaaa

namespace Go.Proofs.Ytebfjdolgchgaaa
open Go Go.Fw Go.RowKit
set_option linter.unusedVariables false
set_option linter.unusedSimpArgs false

section
variable {l : List Raw} {ml : List Mt} {j : Nat} {C : List Con} {x : Raw} {m : Mt}
theorem newS_of (h : l.any (fun x => decide (65536 < x.2.2.length)) = false) (h2 : (ofL (bareL l)).2 ≠ 0) : newS l = ([], (ofL (bareL l)).2) := by unfold newS; rw [if_neg (by rw [h]; simp), if_pos h2]
theorem newS_7 (h : l.any (fun x => decide (65536 < x.2.2.length)) = false) (h2 : (ofL (bareL l)).2 = 0) (h3 : 262144 < usedL l) : newS l = ([], 7) := by unfold newS; rw [if_neg (by rw [h]; simp), if_neg (fun e => e h2), if_pos h3]
theorem newS_0 (h : l.any (fun x => decide (65536 < x.2.2.length)) = false) (h2 : (ofL (bareL l)).2 = 0) (h3 : ¬ 262144 < usedL l) : newS l = ((ofL l).1, 0) := by unfold newS; rw [if_neg (by rw [h]; simp), if_neg (fun e => e h2), if_neg h3]
structure MkI (l : List Raw) (j : Nat) (C : List Con) : Prop where
 rows : (C.map fun c => ((c.k, false, c.d) : Raw)) = (l.take j).filter fun x => !x.2.1
 con : ∀ c ∈ C, c.own = false ∧ c.D = [] ∧ c.v = .slice none 0 0 ∧ c.nm = c.k ∧ c.sz = c.d.length
theorem MkI.nil : MkI l 0 [] := ⟨by simp, by simp⟩
theorem MkI.skip (h : MkI l j C) (hx : l[j]? = some x) (hd : x.2.1 = true) : MkI l (j + 1) C := ⟨by rw [take_snoc hx, List.filter_append, ← h.rows]; simp [hd], h.con⟩
theorem MkI.keys (h : MkI l j C) : C.map (·.k) = ((l.take j).filter fun x => !x.2.1).map (·.1) := by
 rw [← h.rows, List.map_map]; rfl
theorem MkI.new (h : MkI l j C) (hn : (l.map (·.1)).Nodup) (hx : l[j]? = some x) : ∀ c ∈ C, c.k ≠ x.1 := fun c hc e => by
 have h1 : c.k ∈ (l.take j).map (·.1) := by
  have : c.k ∈ C.map (·.k) := List.mem_map.2 ⟨c, hc, rfl⟩
  rw [h.keys] at this
  obtain ⟨y, hy, hy1⟩ := List.mem_map.1 this
  exact List.mem_map.2 ⟨y, (List.mem_filter.1 hy).1, hy1⟩
 rw [split_at hx, List.map_append, List.nodup_append] at hn
 exact hn.2.2 c.k h1 x.1 (by simp) e
end
end Go.Proofs.Ytebfjdolgchgaaa

namespace Go.Proofs.Ytebfjdolgchgaaa
open Go Go.Fw Go.RowKit Go.Proofs
set_option linter.unusedVariables false
set_option linter.unusedSimpArgs false
set_option maxRecDepth 100000
set_option maxHeartbeats 4000000

-- (valise/valiseref16.Tree).With
theorem with_c {w00 w0 : World} {L X : List (Nat × Obj)} {v : Value} {l : List Raw} {x : Raw} {dv : Value} (M : Sep w00 (L ++ X) w0) (h : FilesK w00 L v l) (hd : SgK w00 L dv 1 x.2.2.length (byteCs x.2.2)) (hl : l.length ≤ 5000) (hnm : ∀ y ∈ l, y.1.length ≤ 2000) (hxl : x.1.length ≤ 2000) : Ret Try.prog 71 #[.agg #[v], .agg #[strV x.1, .bool x.2.1, dv]] w0 fun r w' => ∃ u L', r = .agg #[u] ∧ FilesK w00 (L ++ L') u (withR l x) ∧ Sep w00 ((L ++ L') ++ X) w' := by
 have hFK := h
 obtain ⟨fs, hfm, hfs, hfd⟩ := h
 have hfl : fs.length = l.length := by rw [← hfm]; simp
 rw [hfl] at hfs
 obtain ⟨pv, cv, rfl⟩ := (hfs _ _ M (fun y hy => by simp [hy])).shape
 have hcap := Sg.capLe (hfs _ _ M (fun y hy => by simp [hy]))
 obtain ⟨pd, cd, rfl⟩ := (hd _ _ M (fun y hy => by simp [hy])).shape
 have hone : ∀ f ∈ fs, f.2.oneCell' = true := fun f hf => (hfd f hf).2
 refine Ret.of_W Try.func71 rfl Try.ntmps71 rfl ?_
 refine go 1 ?_
 intro bbx1 _ M
 refine go 1 ?_
 intro bbx2 _ M
 refine go 1 ?_
 intro bal1 _ M
 refine go 0 ?_
 refine W.loop (σ := Nat) (fun j => [(2, _), (3, _), (4, _), (5, .int .i64 ((j : Nat) : Int))]) (fun j w => j ≤ l.length ∧ (∀ y ∈ l.take j, compareP y.1 x.1 < 0) ∧ Sep w00 ([(bal1, .cells [.slice none 0 0].toArray 33 (0, 0)), (bbx2, .cells [strV x.1, .bool x.2.1, .slice pd x.2.2.length cd].toArray 88 (0, 0)), (bbx1, .cells [.slice pv l.length cv].toArray 33 (0, 0))] ++ (L ++ X)) w) (fun j => l.length - j) 0 ⟨rfl, rfl, rfl, rfl, trivial⟩ ⟨Nat.zero_le _, by simp, M⟩ ?_
 rintro j w ⟨hj, hlt, M⟩
 refine go 0 ?_
 refine W.regD (by kernel_rfl) #[0, 0, 2, 6, 15, 31, 63, 127, 63, 511, 1023, 2047, 63, 4159, 16383, 32767, 65535] [(0, false), (1, false), (2, false), (3, false), (4, false), (5, false), (6, false), (7, false), (8, false), (9, false), (10, false), (11, false), (12, false), (13, false), (14, true), (15, false), (16, false)] (by kernel_rfl) ?_
 intro K wD1 hK hwD1
 have M := M.drew hwD1
 refine spl 3 12 ?_ ?_
 ·intro hsp1
  obtain ⟨y, hy⟩ := get_lt (l := l) (q := j) (by omega)
  have hfa := hFK.at_ M (fun y hy => by simp [hy])
  obtain ⟨bb, off, rfl, _⟩ := hfa.blk (j := j) (by omega)
  obtain ⟨py, cy, hrow, _⟩ := hfa.row hy
  have hyl := hnm y (List.mem_of_getElem? hy)
  refine go 1 ?_
  refine x_ia j rfl rfl rfl Try.underlying31 sz88 rfl rfl rfl (by omega) ?_
  refine go 0 ?_
  refine x_ld rfl rfl rfl Try.underlying9 rfl rfl (RowAt.cell hrow (j := 0) rfl) ?_
  refine go 1 ?_
  refine x_call rfl rfl rfl rfl rfl en88 (rcompare_c (by omega) (by omega)) ?_
  rintro r wcall1 ⟨rfl, hncall1⟩
  have M := M.new hncall1
  refine pnd ?_
  refine cnd 1 ?_ ?_
  ·intro hco1
   refine go 0 ?_
   refine x_add _ rfl rfl rfl rfl rfl (wadd (by omega) (by omega)) ?_
   refine go 0 ?_
   exact At.back (j + 1) ⟨rfl, rfl, rfl, rfl, trivial⟩ ⟨by omega, fun z hz => by
    rw [take_mem hy] at hz
    rcases List.mem_append.1 hz with hz | hz
    ·exact hlt z hz
    ·rw [List.mem_singleton.1 hz]; exact hco1, M⟩ (by first | omega | (simp only; omega) | (simp; done) | (simp; omega))
  ·intro hco1
   have hW := withR_at hj hlt (fun z hz => by rw [hy] at hz; cases hz; exact hco1)
   refine go 0 ?_
   refine x_bs0 rfl rfl rfl Try.underlying31 sz88 ?_
   intro bb wb hbb hwb
   have M := M.acons hbb hwb
   refine ⟨trivial, ?_⟩
   refine go 1 ?_
   refine x_slh j rfl rfl rfl Try.underlying31 sz88 rfl rfl rfl (by omega) ?_
   refine x_apL (L := [_]) (cs := []) (nn := 0) rfl rfl rfl rfl Try.underlying31 sz88 ze88 rfl by88 rfl rfl (.inr ⟨bb, 0, [], _, rfl, rfl, rfl, rfl⟩) M (by simp) ((Sg.take (hfs _ _ M (fun y hy => by simp [hy])) hj).src Try.underlying31 (fun u hu => fCs_one hone u (List.mem_of_mem_take hu))) (by omega) (by decide) (by omega) ?_
   intro Lo v6 wv6 how M
   rw [Nat.zero_add, List.nil_append] at how
   have M := M.perm List.perm_append_comm
   rw [fCs_take (by omega)] at how
   have ho1 : ∀ f ∈ fs.take j, f.2.oneCell' = true := fun f hf => hone f (List.mem_of_mem_take hf)
   obtain ⟨p6, c6, rfl⟩ := how.shape
   refine ⟨trivial, ?_⟩
   refine go 1 ?_
   refine x_bs1 (cs := [strV x.1, .bool x.2.1, .slice pd x.2.2.length cd]) rfl rfl rfl Try.underlying31 sz88 ze88 (Z := [_, _, _]) rfl rfl (by decide) (by decide) rfl rfl rfl ?_
   intro bbs2 wbs2 hbbs2 hwbs2
   have M0 := M.acons hbbs2 hwbs2
   have hslbs2 : Sl wbs2 (.slice (some ⟨bbs2, 0, none⟩) 1 1) 3 1 [strV x.1, .bool x.2.1, .slice pd x.2.2.length cd] := .inr ⟨bbs2, 0, 1, _, _, _, rfl, by omega, M0.at_ 0 rfl, rfl, rfl⟩
   have M := M0.tail
   refine ⟨trivial, ?_⟩
   refine x_apL rfl rfl rfl rfl Try.underlying31 sz88 ze88 rfl by88 rfl rfl how (M.perm List.perm_append_comm) (fCs_one ho1) (hslbs2.src Try.underlying31 (by intro u hu; simp at hu; rcases hu with rfl | rfl | rfl <;> rfl)) (by omega) (by decide) (by omega) ?_
   intro Lo v7 wv7 how M
   have M := M.perm List.perm_append_comm
   obtain ⟨p7, c7, rfl⟩ := how.shape
   refine ⟨trivial, ?_⟩
   refine go 1 ?_
   refine x_sll j rfl rfl rfl Try.underlying31 sz88 rfl rfl rfl hj ?_
   refine x_apL rfl rfl rfl rfl Try.underlying31 sz88 ze88 rfl by88 rfl rfl how (M.perm List.perm_append_comm) (fun u hu => by
    rcases List.mem_append.1 hu with hu | hu
    ·exact fCs_one ho1 u hu
    ·simp at hu; rcases hu with rfl | rfl | rfl <;> rfl) ((Sg.drop (hfs _ _ M (fun y hy => by simp [hy])) hj).src Try.underlying31 (fun u hu => fCs_one hone u (List.mem_of_mem_drop hu))) (by omega) (by decide) (by omega) ?_
   intro Lo v8 wv8 how M
   have M := M.perm List.perm_append_comm
   obtain ⟨p8, c8, rfl⟩ := how.shape
   refine ⟨trivial, ?_⟩
   refine go 2 ?_
   intro _ M
   refine go 1 ?_
   refine ⟨_, Lo, rfl, ?_, ?_⟩
   ·rw [hW]
    refine ⟨fs.take j ++ (x, .slice pd x.2.2.length cd) :: fs.drop j, by rw [List.map_append, List.map_cons, List.map_take, List.map_drop, hfm], ?_, ?_⟩
    ·have e1 : (fs.take j ++ (x, Value.slice pd x.2.2.length cd) :: fs.drop j).length = j + 1 + (l.length - j) := by simp; omega
     have e2 : fCs (fs.take j ++ (x, Value.slice pd x.2.2.length cd) :: fs.drop j) = (fCs (fs.take j) ++ [strV x.1, .bool x.2.1, .slice pd x.2.2.length cd]) ++ (fCs fs).drop (j * 3) := by rw [fCs_drop (by omega), fCs_app]; simp [fCs]
     rw [e1, e2]
     exact SgK.own how (by decide) (fun y hy => List.mem_append_right _ hy)
    ·intro f hf
     rcases List.mem_append.1 hf with hf | hf
     ·exact ⟨(hfd f (List.mem_of_mem_take hf)).1.mono (fun y hy => List.mem_append_left _ hy), hone f (List.mem_of_mem_take hf)⟩
     ·rcases List.mem_cons.1 hf with rfl | hf
      ·exact ⟨hd.mono (fun y hy => List.mem_append_left _ hy), rfl⟩
      ·exact ⟨(hfd f (List.mem_of_mem_drop hf)).1.mono (fun y hy => List.mem_append_left _ hy), hone f (List.mem_of_mem_drop hf)⟩
   ·have M2 : Sep w00 ((L ++ X) ++ Lo) _ := St.tail (St.tail (St.tail M))
    exact M2.perm (by rw [List.append_assoc, List.append_assoc]; exact List.Perm.append_left _ List.perm_append_comm)
 ·intro hsp1
  have hW := withR_at hj hlt (fun z hz => by have := (List.getElem?_eq_some_iff.1 hz).1; omega)
  refine go 0 ?_
  refine x_bs0 rfl rfl rfl Try.underlying31 sz88 ?_
  intro bb wb hbb hwb
  have M := M.acons hbb hwb
  refine ⟨trivial, ?_⟩
  refine go 1 ?_
  refine x_slh j rfl rfl rfl Try.underlying31 sz88 rfl rfl rfl (by omega) ?_
  refine x_apL (L := [_]) (cs := []) (nn := 0) rfl rfl rfl rfl Try.underlying31 sz88 ze88 rfl by88 rfl rfl (.inr ⟨bb, 0, [], _, rfl, rfl, rfl, rfl⟩) M (by simp) ((Sg.take (hfs _ _ M (fun y hy => by simp [hy])) hj).src Try.underlying31 (fun u hu => fCs_one hone u (List.mem_of_mem_take hu))) (by omega) (by decide) (by omega) ?_
  intro Lo v6 wv6 how M
  rw [Nat.zero_add, List.nil_append] at how
  have M := M.perm List.perm_append_comm
  rw [fCs_take (by omega)] at how
  have ho1 : ∀ f ∈ fs.take j, f.2.oneCell' = true := fun f hf => hone f (List.mem_of_mem_take hf)
  obtain ⟨p6, c6, rfl⟩ := how.shape
  refine ⟨trivial, ?_⟩
  refine go 1 ?_
  refine x_bs1 (cs := [strV x.1, .bool x.2.1, .slice pd x.2.2.length cd]) rfl rfl rfl Try.underlying31 sz88 ze88 (Z := [_, _, _]) rfl rfl (by decide) (by decide) rfl rfl rfl ?_
  intro bbs4 wbs4 hbbs4 hwbs4
  have M0 := M.acons hbbs4 hwbs4
  have hslbs4 : Sl wbs4 (.slice (some ⟨bbs4, 0, none⟩) 1 1) 3 1 [strV x.1, .bool x.2.1, .slice pd x.2.2.length cd] := .inr ⟨bbs4, 0, 1, _, _, _, rfl, by omega, M0.at_ 0 rfl, rfl, rfl⟩
  have M := M0.tail
  refine ⟨trivial, ?_⟩
  refine x_apL rfl rfl rfl rfl Try.underlying31 sz88 ze88 rfl by88 rfl rfl how (M.perm List.perm_append_comm) (fCs_one ho1) (hslbs4.src Try.underlying31 (by intro u hu; simp at hu; rcases hu with rfl | rfl | rfl <;> rfl)) (by omega) (by decide) (by omega) ?_
  intro Lo v7 wv7 how M
  have M := M.perm List.perm_append_comm
  obtain ⟨p7, c7, rfl⟩ := how.shape
  refine ⟨trivial, ?_⟩
  refine go 1 ?_
  refine x_sll j rfl rfl rfl Try.underlying31 sz88 rfl rfl rfl hj ?_
  refine x_apL rfl rfl rfl rfl Try.underlying31 sz88 ze88 rfl by88 rfl rfl how (M.perm List.perm_append_comm) (fun u hu => by
   rcases List.mem_append.1 hu with hu | hu
   ·exact fCs_one ho1 u hu
   ·simp at hu; rcases hu with rfl | rfl | rfl <;> rfl) ((Sg.drop (hfs _ _ M (fun y hy => by simp [hy])) hj).src Try.underlying31 (fun u hu => fCs_one hone u (List.mem_of_mem_drop hu))) (by omega) (by decide) (by omega) ?_
  intro Lo v8 wv8 how M
  have M := M.perm List.perm_append_comm
  obtain ⟨p8, c8, rfl⟩ := how.shape
  refine ⟨trivial, ?_⟩
  refine go 2 ?_
  intro _ M
  refine go 1 ?_
  refine ⟨_, Lo, rfl, ?_, ?_⟩
  ·rw [hW]
   refine ⟨fs.take j ++ (x, .slice pd x.2.2.length cd) :: fs.drop j, by rw [List.map_append, List.map_cons, List.map_take, List.map_drop, hfm], ?_, ?_⟩
   ·have e1 : (fs.take j ++ (x, Value.slice pd x.2.2.length cd) :: fs.drop j).length = j + 1 + (l.length - j) := by simp; omega
    have e2 : fCs (fs.take j ++ (x, Value.slice pd x.2.2.length cd) :: fs.drop j) = (fCs (fs.take j) ++ [strV x.1, .bool x.2.1, .slice pd x.2.2.length cd]) ++ (fCs fs).drop (j * 3) := by rw [fCs_drop (by omega), fCs_app]; simp [fCs]
    rw [e1, e2]
    exact SgK.own how (by decide) (fun y hy => List.mem_append_right _ hy)
   ·intro f hf
    rcases List.mem_append.1 hf with hf | hf
    ·exact ⟨(hfd f (List.mem_of_mem_take hf)).1.mono (fun y hy => List.mem_append_left _ hy), hone f (List.mem_of_mem_take hf)⟩
    ·rcases List.mem_cons.1 hf with rfl | hf
     ·exact ⟨hd.mono (fun y hy => List.mem_append_left _ hy), rfl⟩
     ·exact ⟨(hfd f (List.mem_of_mem_drop hf)).1.mono (fun y hy => List.mem_append_left _ hy), hone f (List.mem_of_mem_drop hf)⟩
  ·have M2 : Sep w00 ((L ++ X) ++ Lo) _ := St.tail (St.tail (St.tail M))
   exact M2.perm (by rw [List.append_assoc, List.append_assoc]; exact List.Perm.append_left _ List.perm_append_comm)

end Go.Proofs.Ytebfjdolgchgaaa

namespace Go.Proofs.Ytebfjdolgchgaaa
open Go Go.Fw Go.RowKit Go.Proofs
set_option linter.unusedVariables false
set_option linter.unusedSimpArgs false
set_option maxRecDepth 100000
set_option maxHeartbeats 4000000

-- valise/valiseref16.Of
theorem rof_c {w00 w0 : World} {X : List (Nat × Obj)} {v : Value} {l : List Raw} (M : Sep w00 X w0) (h : FilesAt w00 v l) (hl : l.length ≤ 200) : Ret Try.prog 46 #[v] w0 fun r w' => ∃ u Lr, r = .tuple #[.agg #[u], .int .i64 (ofL l).2] ∧ FilesK w00 Lr u (ofL l).1 ∧ Sep w00 (Lr ++ X) w' := by
 obtain ⟨pv, cv, rfl⟩ := h.shape
 refine Ret.of_W Try.func46 rfl Try.ntmps46 rfl ?_
 refine go 1 ?_
 intro bal1 _ M
 refine go 2 ?_
 intro bal2 _ M
 refine go 1 ?_
 intro _ M
 refine go 0 ?_
 refine W.loop (σ := Nat) (fun j => [(0, _), (2, _), (4, _), (5, .int .i64 ((j : Nat) : Int))]) (fun j w => j ≤ l.length ∧ (∀ x ∈ l.take j, singleR x = 0) ∧ Sep w00 ([(bal2, .cells [.slice none 0 0].toArray 33 (0, 0)), (bal1, .cells [.slice none 0 0].toArray 33 (0, 0))] ++ X) w) (fun j => l.length - j) 0 ⟨rfl, rfl, rfl, rfl, trivial⟩ ⟨Nat.zero_le _, by simp, M⟩ ?_
 rintro j w ⟨hj, hok, M⟩
 refine cnd 2 ?_ ?_
 ·intro hco1
  obtain ⟨x, hx⟩ := get_lt (l := l) (q := j) (by omega)
  obtain ⟨bb, off, rfl, _⟩ := (h.new M.frm).blk (j := j) (by omega)
  obtain ⟨pd, cd, hrow, _⟩ := (h.new M.frm).row hx
  refine go 0 ?_
  refine x_ia j rfl rfl rfl Try.underlying31 sz88 rfl rfl rfl (by omega) ?_
  refine go 0 ?_
  refine x_ld rfl rfl rfl Try.underlying9 rfl rfl (RowAt.cell hrow (j := 0) rfl) ?_
  refine x_call rfl rfl rfl rfl rfl en69 (rsplit_c) ?_
  rintro r_ w1 ⟨v1, L1, rfl, M1, hs1⟩
  have M := M.grow M1
  have hrow := RowAt.new hrow M1.frm
  obtain ⟨p1, c1, rfl, hcap1⟩ := hs1.shape2 (by decide)
  refine ⟨trivial, ?_⟩
  refine spl 1 33 ?_ ?_
  ·intro hsp1
   refine go 2 ?_
   intro _ M
   refine go 1 ?_
   have hR := ofL_at hx hok (show singleR x = 8 by unfold singleR; rw [if_neg (fun e => hsp1 e.1)]) (by decide)
   rw [hR]; exact ⟨_, [], rfl, nilK, St.dropL (L' := [_, _]) M.dropR⟩
  ·intro hsp1
   refine cnd 2 ?_ ?_
   ·intro hco3
    refine go 2 ?_
    intro _ M
    refine go 1 ?_
    have hR := ofL_at hx hok (show singleR x = 8 by unfold singleR; rw [if_neg (fun e => e.2 (List.length_eq_zero_iff.1 (by omega)))]) (by decide)
    rw [hR]; exact ⟨_, [], rfl, nilK, St.dropL (L' := [_, _]) M.dropR⟩
   ·intro hco3
    have hn0 : splitN x.1 ≠ [] := fun e => hco3 (by rw [e]; rfl)
    refine go 0 ?_
    refine x_ia j rfl rfl rfl Try.underlying31 sz88 rfl rfl rfl (by omega) ?_
    refine go 0 ?_
    refine x_ld rfl rfl rfl Try.underlying4 rfl rfl (RowAt.cell hrow (j := 1) rfl) ?_
    refine spl 0 44 ?_ ?_
    ·intro hsp2
     refine go 0 ?_
     refine x_ia j rfl rfl rfl Try.underlying31 sz88 rfl rfl rfl (by omega) ?_
     refine go 0 ?_
     refine x_ld rfl rfl rfl Try.underlying56 rfl rfl (RowAt.cell hrow (j := 2) rfl) ?_
     refine cnd 2 ?_ ?_
     ·intro hco4
      refine go 2 ?_
      intro _ M
      refine go 1 ?_
      have hR := ofL_at hx hok (show singleR x = 16 by unfold singleR; rw [if_pos ⟨hsp1, hn0⟩, if_pos ⟨hsp2, fun e => by rw [e] at hco4; simp at hco4⟩]) (by decide)
      rw [hR]; exact ⟨_, [], rfl, nilK, St.dropL (L' := [_, _]) M.dropR⟩
     ·intro hco4
      have hd0 : x.2.2 = [] := List.length_eq_zero_iff.1 (by omega)
      refine go 0 ?_
      refine x_ia j rfl rfl rfl Try.underlying31 sz88 rfl rfl rfl (by omega) ?_
      refine go 0 ?_
      refine x_ld rfl rfl rfl Try.underlying56 rfl rfl (RowAt.cell hrow (j := 2) rfl) ?_
      refine cnd 2 ?_ ?_
      ·intro hco5
       refine go 2 ?_
       intro _ M
       refine go 1 ?_
       have hR := ofL_at hx hok (show singleR x = 3 by unfold singleR; rw [if_pos ⟨hsp1, hn0⟩, if_neg (fun e => e.2 hd0), if_pos (by omega)]) (by decide)
       rw [hR]; exact ⟨_, [], rfl, nilK, St.dropL (L' := [_, _]) M.dropR⟩
      ·intro hco5
       have hsg : singleR x = 0 := by unfold singleR; rw [if_pos ⟨hsp1, hn0⟩, if_neg (fun e => e.2 hd0), if_neg (by omega)]
       refine go 0 ?_
       refine x_add _ rfl rfl rfl rfl rfl (wadd (by omega) (by omega)) ?_
       refine go 0 ?_
       exact At.back (j + 1) ⟨rfl, rfl, rfl, rfl, trivial⟩ ⟨by omega, fun z hz => by
        rw [take_mem hx] at hz
        rcases List.mem_append.1 hz with hz | hz
        ·exact hok z hz
        ·rw [List.mem_singleton.1 hz]; exact hsg, M.dropR⟩ (by first | omega | (simp only; omega) | (simp; done) | (simp; omega))
    ·intro hsp2
     refine go 0 ?_
     refine x_ia j rfl rfl rfl Try.underlying31 sz88 rfl rfl rfl (by omega) ?_
     refine go 0 ?_
     refine x_ld rfl rfl rfl Try.underlying56 rfl rfl (RowAt.cell hrow (j := 2) rfl) ?_
     refine cnd 2 ?_ ?_
     ·intro hco7
      refine go 2 ?_
      intro _ M
      refine go 1 ?_
      have hR := ofL_at hx hok (show singleR x = 3 by unfold singleR; rw [if_pos ⟨hsp1, hn0⟩, if_neg (fun e => by have := e.1; rw [hsp2] at this; cases this), if_pos (by omega)]) (by decide)
      rw [hR]; exact ⟨_, [], rfl, nilK, St.dropL (L' := [_, _]) M.dropR⟩
     ·intro hco7
      have hsg : singleR x = 0 := by unfold singleR; rw [if_pos ⟨hsp1, hn0⟩, if_neg (fun e => by have := e.1; rw [hsp2] at this; cases this), if_neg (by omega)]
      refine go 0 ?_
      refine x_add _ rfl rfl rfl rfl rfl (wadd (by omega) (by omega)) ?_
      refine go 0 ?_
      exact At.back (j + 1) ⟨rfl, rfl, rfl, rfl, trivial⟩ ⟨by omega, fun z hz => by
       rw [take_mem hx] at hz
       rcases List.mem_append.1 hz with hz | hz
       ·exact hok z hz
       ·rw [List.mem_singleton.1 hz]; exact hsg, M.dropR⟩ (by first | omega | (simp only; omega) | (simp; done) | (simp; omega))
 ·intro hco1
  have hj2 : j = l.length := by omega
  subst hj2
  rw [List.take_length] at hok
  have hf := firstR_ok hok
  have hnm : ∀ y ∈ l, y.1.length ≤ 2000 := fun y hy => by have := splitE_len (single_ok (hok y hy)).1; omega
  have M : Sep w00 ([(bal2, .cells [.slice none 0 0].toArray 33 (0, 0)), (bal1, .cells [.slice none 0 0].toArray 33 (0, 0))] ++ ([] ++ X)) w := by simpa using M
  refine go 0 ?_
  refine W.loop (σ := Nat × Value × List (Nat × Obj)) (fun q => [(0, _), (2, _), (4, _), (8, .int .i64 ((q.1 : Nat) : Int))]) (fun q w => q.1 ≤ l.length ∧ ((l.take q.1).map (·.1)).Nodup ∧ FilesK w00 q.2.2 q.2.1 ((l.take q.1).foldl withR []) ∧ Sep w00 ([(bal2, .cells [q.2.1].toArray 33 (0, 0)), (bal1, .cells [.slice none 0 0].toArray 33 (0, 0))] ++ (q.2.2 ++ X)) w) (fun q => l.length - q.1) (0, .slice none 0 0, []) ⟨rfl, rfl, rfl, rfl, trivial⟩ ⟨Nat.zero_le _, by simp, nilK, M⟩ ?_
  rintro ⟨i, u, L2⟩ w ⟨hi, hnd, hu, M⟩
  simp only at hi hnd hu M
  obtain ⟨pu, cu, rfl⟩ := (hu.at_ M (fun y hy => List.mem_append_right _ (List.mem_append_left _ hy))).shape
  have hflen : ((l.take i).foldl withR []).length = i := by rw [fold_len, List.length_take]; omega
  refine cnd 2 ?_ ?_
  ·intro hco8
   obtain ⟨x, hx⟩ := get_lt (l := l) (q := i) (by omega)
   obtain ⟨bb, off, rfl, _⟩ := h.blk (j := i) (by omega)
   obtain ⟨pd, cd, hrow0, hbd⟩ := h.row hx
   refine go 0 ?_
   refine W.regD (by kernel_rfl) #[0, 0, 0, 6, 14, 30, 63, 127] [(0, false), (1, false), (2, false), (3, false), (4, false), (5, false), (6, true), (7, false)] (by kernel_rfl) ?_
   intro K wD1 hK hwD1
   have M := M.drew hwD1
   have hrow := RowAt.new hrow0 M.frm
   refine go 1 ?_
   refine x_ia i rfl rfl rfl Try.underlying31 sz88 rfl rfl rfl (by omega) ?_
   refine go 0 ?_
   refine x_ld rfl rfl rfl Try.underlying9 rfl rfl (RowAt.cell hrow (j := 0) rfl) ?_
   refine x_call rfl rfl rfl rfl rfl en70 (at_c (hu.at_ M (fun y hy => List.mem_append_right _ (List.mem_append_left _ hy))) (by omega)) ?_
   rintro r_ w2 ⟨rfl, hn2⟩
   have M := M.new hn2
   have hac := atR_cases ((l.take i).foldl withR []) x.1
   refine pnd ?_
   refine cnd 1 ?_ ?_
   ·intro hco9
    refine go 2 ?_
    intro _ M
    refine go 1 ?_
    have hdup : ¬ (l.map (·.1)).Nodup := by
     rcases hac with ⟨k, y, a1, a2, _⟩ | ⟨_, a2⟩
     ·exact dup_step hx ⟨y, fold_mem.1 (List.mem_of_getElem? a1), a2⟩
     ·omega
    have hR := ofL_2 hf hdup
    rw [hR]; exact ⟨_, [], rfl, nilK, St.dropL (St.dropL (L' := [_, _]) M)⟩
   ·intro hco9
    have hno : ∀ y ∈ l.take i, y.1 ≠ x.1 := by
     rcases hac with ⟨k, y, a1, a2, a3, _⟩ | ⟨a1, _⟩
     ·omega
     ·exact fun y hy => a1 y (fold_mem.2 hy)
    refine go 0 ?_
    refine W.regD (by kernel_rfl) #[0, 0, 0, 6, 14, 31, 63] [(0, false), (1, false), (2, false), (3, false), (4, false), (5, true), (6, true)] (by kernel_rfl) ?_
    intro K wD2 hK hwD2
    have M := M.drew hwD2
    have hrow := RowAt.new hrow0 M.frm
    refine go 1 ?_
    refine x_ia i rfl rfl rfl Try.underlying31 sz88 rfl rfl rfl (by omega) ?_
    refine x_ldA [_, _, _] rfl rfl rfl Try.underlying88 rfl sz88 rfl rfl hrow ?_
    refine x_call rfl rfl rfl rfl rfl en71 (with_c (x := x) (St.inn2 (F := [_, _]) M) hu (SgK.old hbd) (by omega) (fun y hy => hnm y (List.mem_of_mem_take (fold_mem.1 hy))) (hnm x (List.mem_of_getElem? hx))) ?_
    rintro r_ w3 ⟨u2, L3, rfl, hu2, M⟩
    have M := M.out2 [_, _]
    obtain ⟨pu2, cu2, rfl⟩ := (hu2.at_ M (fun y hy => List.mem_append_right _ (List.mem_append_left _ hy))).shape
    refine pnd ?_
    refine x_st [_] _ rfl rfl rfl sz33 rfl rfl rfl rfl atM rfl rfl rfl ?_
    intro wst8 hwst8
    have M := by first | exact M.put 0 rfl hwst8 | exact M.put 1 rfl hwst8 | exact M.put 2 rfl hwst8 | exact M.put 3 rfl hwst8 | exact M.put 4 rfl hwst8 | exact M.put 5 rfl hwst8 | exact M.put 6 rfl hwst8 | exact M.put 7 rfl hwst8
    refine pnd ?_
    refine go 0 ?_
    refine x_add _ rfl rfl rfl rfl rfl (wadd (by omega) (by omega)) ?_
    refine go 0 ?_
    exact At.back ((i + 1, _, L2 ++ L3)) ⟨rfl, rfl, rfl, rfl, trivial⟩ ⟨by omega, nodup_step hnd hx hno, by simp only; rw [take_mem hx, List.foldl_append]; exact hu2, M⟩ (by first | omega | (simp only; omega) | (simp; done) | (simp; omega))
  ·intro hco8
   have hi2 : i = l.length := by omega
   subst hi2
   rw [List.take_length] at hnd hu M hflen
   refine go 0 ?_
   refine W.loop (σ := Nat) (fun a => [(0, _), (2, _), (4, _), (9, .int .i64 ((a : Nat) : Int))]) (fun a w => a ≤ l.length ∧ (∀ i < a, ∀ k, ¬ BadAt l i k) ∧ Sep w00 ([(bal2, .cells [.slice pu (l.foldl withR []).length cu].toArray 33 (0, 0)), (bal1, .cells [.slice none 0 0].toArray 33 (0, 0))] ++ (L2 ++ X)) w) (fun a => l.length - a) 0 ⟨rfl, rfl, rfl, rfl, trivial⟩ ⟨Nat.zero_le _, fun i hi => by omega, M⟩ ?_
   rintro a w ⟨ha, hnb, M⟩
   refine cnd 2 ?_ ?_
   ·intro hco10
    obtain ⟨x, hx⟩ := get_lt (l := l) (q := a) (by omega)
    obtain ⟨bb, off, rfl, _⟩ := h.blk (j := a) (by omega)
    obtain ⟨px, cx, hrx0, _⟩ := h.row hx
    refine go 0 ?_
    refine W.loop (σ := Nat) (fun b => [(0, _), (2, _), (4, _), (9, _), (10, .int .i64 ((b : Nat) : Int))]) (fun b w => b ≤ l.length ∧ (∀ k < b, ¬ BadAt l a k) ∧ Sep w00 ([(bal2, .cells [.slice pu (l.foldl withR []).length cu].toArray 33 (0, 0)), (bal1, .cells [.slice none 0 0].toArray 33 (0, 0))] ++ (L2 ++ X)) w) (fun b => l.length - b) 0 ⟨rfl, rfl, rfl, rfl, rfl, trivial⟩ ⟨Nat.zero_le _, fun i hi => by omega, M⟩ ?_
    rintro b w ⟨hb, hnk, M⟩
    refine cnd 2 ?_ ?_
    ·intro hco11
     obtain ⟨y, hy⟩ := get_lt (l := l) (q := b) (by omega)
     obtain ⟨py, cy, hry0, _⟩ := h.row hy
     refine go 0 ?_
     refine W.regD (by kernel_rfl) #[0, 0, 3, 7, 15, 15, 63, 127, 255, 511, 1023, 2047, 4095, 4095, 16383, 32767, 65535, 4095, 4095, 397311, 921599, 1970175, 4194303, 8388607] [(0, false), (1, false), (2, false), (3, false), (4, false), (5, false), (6, false), (7, false), (8, false), (9, false), (10, false), (11, false), (12, false), (13, false), (14, false), (15, false), (16, false), (17, false), (18, false), (19, false), (20, false), (21, false), (22, true), (23, false)] (by kernel_rfl) ?_
     intro K wD3 hK hwD3
     have M := M.drew hwD3
     have hrx := RowAt.new hrx0 M.frm
     have hry := RowAt.new hry0 M.frm
     refine spl 1 98 ?_ ?_
     ·intro hsp3
      refine go 0 ?_
      refine x_ia a rfl rfl rfl Try.underlying31 sz88 rfl rfl rfl (by omega) ?_
      refine go 0 ?_
      refine x_ld rfl rfl rfl Try.underlying4 rfl rfl (RowAt.cell hrx (j := 1) rfl) ?_
      refine spl 1 106 ?_ ?_
      ·intro hsp4
       refine go 0 ?_
       refine x_ia b rfl rfl rfl Try.underlying31 sz88 rfl rfl rfl (by omega) ?_
       refine go 0 ?_
       refine x_ld rfl rfl rfl Try.underlying9 rfl rfl (RowAt.cell hry (j := 0) rfl) ?_
       refine go 0 ?_
       refine x_ia a rfl rfl rfl Try.underlying31 sz88 rfl rfl rfl (by omega) ?_
       refine go 0 ?_
       refine x_ld rfl rfl rfl Try.underlying9 rfl rfl (RowAt.cell hrx (j := 0) rfl) ?_
       refine x_call rfl rfl rfl rfl rfl en72 (runder_c) ?_
       rintro r wcall4 ⟨rfl, hncall4⟩
       have M := M.new hncall4
       refine pnd ?_
       refine cnd 0 ?_ ?_
       ·intro hco12
        refine go 2 ?_
        intro _ M
        refine go 1 ?_
        have hR := ofL_3 hf hnd ⟨a, b, x, y, hx, hy, by omega, hsp4, hco12⟩
        rw [hR]; exact ⟨_, [], rfl, nilK, St.dropL (St.dropL (L' := [_, _]) M)⟩
       ·intro hco12
        refine go 0 ?_
        refine x_add _ rfl rfl rfl rfl rfl (wadd (by omega) (by omega)) ?_
        refine go 0 ?_
        exact At.back (b + 1) ⟨rfl, rfl, rfl, rfl, rfl, trivial⟩ ⟨by omega, badAt_step hnk (by
         intro hbd_
         obtain ⟨x_, y_, g1, g2, g3, g4, g5⟩ := hbd_
         rw [hx] at g1; rw [hy] at g2; cases g1; cases g2
         rw [hco12] at g5; cases g5), M⟩ (by first | omega | (simp only; omega) | (simp; done) | (simp; omega))
      ·intro hsp4
       refine go 0 ?_
       refine x_add _ rfl rfl rfl rfl rfl (wadd (by omega) (by omega)) ?_
       refine go 0 ?_
       exact At.back (b + 1) ⟨rfl, rfl, rfl, rfl, rfl, trivial⟩ ⟨by omega, badAt_step hnk (by
        intro hbd_
        obtain ⟨x_, y_, g1, g2, g3, g4, g5⟩ := hbd_
        rw [hx] at g1; rw [hy] at g2; cases g1; cases g2
        rw [hsp4] at g4; cases g4), M⟩ (by first | omega | (simp only; omega) | (simp; done) | (simp; omega))
     ·intro hsp3
      refine go 0 ?_
      refine x_add _ rfl rfl rfl rfl rfl (wadd (by omega) (by omega)) ?_
      refine go 0 ?_
      exact At.back (b + 1) ⟨rfl, rfl, rfl, rfl, rfl, trivial⟩ ⟨by omega, badAt_step hnk (by
       intro hbd_
       obtain ⟨x_, y_, g1, g2, g3, g4, g5⟩ := hbd_
       rw [hx] at g1; rw [hy] at g2; cases g1; cases g2
       omega), M⟩ (by first | omega | (simp only; omega) | (simp; done) | (simp; omega))
    ·intro hco11
     refine go 0 ?_
     refine x_add _ rfl rfl rfl rfl rfl (wadd (by omega) (by omega)) ?_
     refine go 0 ?_
     exact At.back (a + 1) ⟨rfl, rfl, rfl, rfl, trivial⟩ ⟨by omega, badAt_row hnb (fun k hk => hnk k (by omega)), M⟩ (by first | omega | (simp only; omega) | (simp; done) | (simp; omega))
   ·intro hco10
    have ha2 : a = l.length := by omega
    subst ha2
    have hnb2 : ¬ badL l := fun ⟨i, k, hb⟩ => hnb i (by obtain ⟨_, _, h1, _⟩ := hb; exact (List.getElem?_eq_some_iff.1 h1).1) k hb
    have hR0 := ofL_4 hf hnd hnb2
    have hsE : ∀ y ∈ l, splitE y.1 = 0 := fun y hy => (single_ok (hok y hy)).1
    refine go 0 ?_
    refine W.loop (σ := Nat × Value × List (Nat × Obj)) (fun q => [(0, _), (2, _), (4, _), (11, .int .i64 ((q.1 : Nat) : Int))]) (fun q w => q.1 ≤ l.length ∧ FilesK w00 q.2.2 q.2.1 (fillL (l.take q.1) (l.foldl withR [])) ∧ Sep w00 ([(bal2, .cells [q.2.1].toArray 33 (0, 0)), (bal1, .cells [.slice none 0 0].toArray 33 (0, 0))] ++ (q.2.2 ++ X)) w) (fun q => l.length - q.1) (0, _, L2) ⟨rfl, rfl, rfl, rfl, trivial⟩ ⟨Nat.zero_le _, hu, M⟩ ?_
    rintro ⟨i, u, L3⟩ w ⟨hi, hu, M⟩
    simp only at hi hu M
    obtain ⟨pu, cu, rfl⟩ := (hu.at_ M (fun y hy => List.mem_append_right _ (List.mem_append_left _ hy))).shape
    have hfl : (fillL (l.take i) (l.foldl withR [])).length ≤ l.length + 8 * i := by
     have := fillL_len (l.take i) (l.foldl withR [])
     rw [fold_len, List.length_take] at this; omega
    have hfn : ∀ y ∈ fillL (l.take i) (l.foldl withR []), y.1.length ≤ 2000 := fillL_names (fun z hz => hsE z (List.mem_of_mem_take hz)) (fun y hy => hnm y (fold_mem.1 hy))
    refine cnd 2 ?_ ?_
    ·intro hco15
     obtain ⟨x, hx⟩ := get_lt (l := l) (q := i) (by omega)
     obtain ⟨bb, off, rfl, _⟩ := h.blk (j := i) (by omega)
     obtain ⟨pd, cd, hrow0, _⟩ := h.row hx
     have hrow := RowAt.new hrow0 M.frm
     have hP := POK_split (hsE x (List.mem_of_getElem? hx))
     have hn0 := (single_ok (hok x (List.mem_of_getElem? hx))).2.1
     have hsl := splitN_len x.1
     have hlp := List.length_pos_iff.2 hn0
     refine go 0 ?_
     refine x_ia i rfl rfl rfl Try.underlying31 sz88 rfl rfl rfl (by omega) ?_
     refine go 0 ?_
     refine x_ld rfl rfl rfl Try.underlying9 rfl rfl (RowAt.cell hrow (j := 0) rfl) ?_
     refine x_call rfl rfl rfl rfl rfl en69 (rsplit_c) ?_
     rintro r_ w5 ⟨v5, L5, rfl, M5, hs5⟩
     have M := M.grow M5
     obtain ⟨p5, c5, rfl, hcap5⟩ := hs5.shape2 (by decide)
     have M : Sep w00 ([(bal2, .cells [.slice pu (fillL (l.take i) (l.foldl withR [])).length cu].toArray 33 (0, 0)), (bal1, .cells [.slice none 0 0].toArray 33 (0, 0))] ++ (L3 ++ (X ++ L5))) w5 := by simpa using M
     refine ⟨trivial, ?_⟩
     refine go 0 ?_
     refine W.loop (σ := Nat × Value × List (Nat × Obj)) (fun q => [(0, _), (2, _), (4, _), (11, _), (12, _), (14, .int .i64 ((q.1 + 1 : Nat) : Int))]) (fun q w => q.1 + 1 ≤ (splitN x.1).length ∧ FilesK w00 q.2.2 q.2.1 (fillX (splitN x.1) (fillL (l.take i) (l.foldl withR [])) q.1) ∧ Sep w00 ([(bal2, .cells [q.2.1].toArray 33 (0, 0)), (bal1, .cells [.slice none 0 0].toArray 33 (0, 0))] ++ (q.2.2 ++ (X ++ L5))) w) (fun q => (splitN x.1).length - q.1) (0, _, L3) ⟨rfl, rfl, rfl, rfl, rfl, rfl, trivial⟩ ⟨by simp only; omega, hu, M⟩ ?_
     rintro ⟨k, u2, L4⟩ w ⟨hk, hu2, M⟩
     simp only at hk hu2 M
     obtain ⟨pu2, cu2, rfl⟩ := (hu2.at_ M (fun y hy => List.mem_append_right _ (List.mem_append_left _ hy))).shape
     have hxl := fillX_len (N := splitN x.1) (t := fillL (l.take i) (l.foldl withR [])) k
     have hxn := fillX_names (k := k) hP hfn
     have hPk := hP.take (k + 1)
     refine cnd 2 ?_ ?_
     ·intro hco16
      refine go 0 ?_
      refine W.regD (by kernel_rfl) #[0, 0, 0, 6, 14, 31, 63] [(0, false), (1, false), (2, false), (3, false), (4, true), (5, true), (6, false)] (by kernel_rfl) ?_
      intro K wD4 hK hwD4
      have M := M.drew hwD4
      refine go 1 ?_
      refine x_slh (k + 1) rfl rfl rfl Try.underlying57 sz9 rfl rfl (by omega) (by omega) ?_
      refine x_call rfl rfl rfl rfl rfl en73 (rtext_c (strsO_at (strsO_take hs5 (j := k + 1) (by omega)) M (fun y hy => List.mem_append_right _ (List.mem_append_right _ (List.mem_append_right _ hy)))) (by simp; omega) (fun y hy => by have := allOK_len hPk.2.1 y hy; omega)) ?_
      rintro r_ w6 ⟨rfl, hn6⟩
      have M := M.new hn6
      refine pnd ?_
      refine x_call rfl rfl rfl rfl rfl en70 (at_c (hu2.at_ M (fun y hy => List.mem_append_right _ (List.mem_append_left _ hy))) (by omega)) ?_
      rintro r_ w7 ⟨rfl, hn7⟩
      have M := M.new hn7
      refine pnd ?_
      refine cnd 1 ?_ ?_
      ·intro hco17
       have hfs := fillX_no (N := splitN x.1) (t := fillL (l.take i) (l.foldl withR [])) (k := k) (by omega)
       refine go 0 ?_
       refine W.regD (by kernel_rfl) #[0, 0, 0, 6, 14, 30, 63, 127] [(0, false), (1, false), (2, false), (3, false), (4, true), (5, false), (6, true), (7, true)] (by kernel_rfl) ?_
       intro K wD5 hK hwD5
       have M := M.drew hwD5
       refine go 1 ?_
       refine x_slh (k + 1) rfl rfl rfl Try.underlying57 sz9 rfl rfl (by omega) (by omega) ?_
       refine x_call rfl rfl rfl rfl rfl en73 (rtext_c (strsO_at (strsO_take hs5 (j := k + 1) (by omega)) M (fun y hy => List.mem_append_right _ (List.mem_append_right _ (List.mem_append_right _ hy)))) (by simp; omega) (fun y hy => by have := allOK_len hPk.2.1 y hy; omega)) ?_
       rintro r_ w8 ⟨rfl, hn8⟩
       have M := M.new hn8
       refine pnd ?_
       refine go 1 ?_
       refine x_call rfl rfl rfl rfl rfl en71 (with_c (x := (joinS ((splitN x.1).take (k + 1)), true, [])) (St.inn2 (F := [_, _]) M) hu2 (SgK.own (L' := []) OwL.nil (by decide) (by simp)) (by omega) hxn (by have := hPk.2.2; simp only; omega)) ?_
       rintro r_ w9 ⟨u3, L6, rfl, hu3, M⟩
       have M := M.out2 [_, _]
       obtain ⟨pu3, cu3, rfl⟩ := (hu3.at_ M (fun y hy => List.mem_append_right _ (List.mem_append_left _ hy))).shape
       refine pnd ?_
       refine x_st [_] _ rfl rfl rfl sz33 rfl rfl rfl rfl atM rfl rfl rfl ?_
       intro wst10 hwst10
       have M := by first | exact M.put 0 rfl hwst10 | exact M.put 1 rfl hwst10 | exact M.put 2 rfl hwst10 | exact M.put 3 rfl hwst10 | exact M.put 4 rfl hwst10 | exact M.put 5 rfl hwst10 | exact M.put 6 rfl hwst10 | exact M.put 7 rfl hwst10
       refine pnd ?_
       refine go 0 ?_
       refine x_add _ rfl rfl rfl rfl rfl (wadd (by omega) (by omega)) ?_
       refine go 0 ?_
       exact At.back ((k + 1, _, L4 ++ L6)) ⟨rfl, rfl, rfl, rfl, rfl, rfl, trivial⟩ ⟨by simp only; omega, by simp only; rw [hfs]; exact hu3, M⟩ (by first | omega | (simp only; omega) | (simp; done) | (simp; omega))
      ·intro hco17
       have hfs := fillX_yes (N := splitN x.1) (t := fillL (l.take i) (l.foldl withR [])) (k := k) (by omega)
       refine go 0 ?_
       refine x_add _ rfl rfl rfl rfl rfl (wadd (by omega) (by omega)) ?_
       refine go 0 ?_
       exact At.back ((k + 1, _, L4)) ⟨rfl, rfl, rfl, rfl, rfl, rfl, trivial⟩ ⟨by simp only; omega, by simp only; rw [hfs]; exact hu2, M⟩ (by first | omega | (simp only; omega) | (simp; done) | (simp; omega))
     ·intro hco16
      have hk2 : k = (splitN x.1).length - 1 := by omega
      subst hk2
      rw [← fillL_step hx] at hu2 M
      have M : Sep w00 (([(bal2, .cells [.slice pu2 (fillL (l.take (i + 1)) (l.foldl withR [])).length cu2].toArray 33 (0, 0)), (bal1, .cells [.slice none 0 0].toArray 33 (0, 0))] ++ (L4 ++ X)) ++ L5) w := by simpa only [List.append_assoc] using M
      have M := M.dropR
      refine go 0 ?_
      refine x_add _ rfl rfl rfl rfl rfl (wadd (by omega) (by omega)) ?_
      refine go 0 ?_
      exact At.back ((i + 1, _, L4)) ⟨rfl, rfl, rfl, rfl, trivial⟩ ⟨by simp only; omega, hu2, M⟩ (by first | omega | (simp only; omega) | (simp; done) | (simp; omega))
    ·intro hco15
     have hi2 : i = l.length := by omega
     subst hi2
     rw [List.take_length] at hu M hfl
     refine cnd 3 ?_ ?_
     ·intro hco18
      refine go 2 ?_
      intro _ M
      refine go 1 ?_
      have hR := hR0.trans (if_pos (by omega))
      rw [hR]; exact ⟨_, [], rfl, nilK, St.dropL (St.dropL (L' := [_, _]) M)⟩
     ·intro hco18
      refine go 2 ?_
      intro _ M
      refine go 1 ?_
      have hR := hR0.trans (if_neg (by omega))
      rw [hR]; exact ⟨_, L3, rfl, hu, St.dropL (L' := [_, _]) M⟩

end Go.Proofs.Ytebfjdolgchgaaa

namespace Go.Proofs.Ytebfjdolgchgaaa
open Go Go.Fw Go.RowKit
set_option linter.unusedVariables false
set_option linter.unusedSimpArgs false

structure Ask where
 who : Int
 o : OpS
def askC (a : Ask × Value) : List Value := .int .i64 a.1.who :: opC a.1.o a.2
def AsksAt (w : World) (v : Value) (l : List Ask) : Prop := ∃ ac : List (Ask × Value), ac.map (·.1) = l ∧ Sg w v 10 ac.length (ac.flatMap askC) ∧ ∀ f ∈ ac, BytesAt w f.2 f.1.o.d
section
variable {w w1 : World} {p : Option Addr} {v : Value} {l : List Ask} {a : Ask} {b off len cap j : Nat}
theorem AsksAt.new (h : AsksAt w v l) (hn : New w w1) : AsksAt w1 v l := let ⟨ac, h1, h2, h3⟩ := h; ⟨ac, h1, h2.new hn, fun f hf => (h3 f hf).new hn⟩
theorem AsksAt.shape (h : AsksAt w v l) : ∃ p cap, v = .slice p l.length cap := by
 obtain ⟨ac, h1, h2, _⟩ := h
 have : ac.length = l.length := by rw [← h1]; simp
 rw [← this]; exact h2.shape
theorem AsksAt.blk (h : AsksAt w (.slice p len cap) l) (hj : j < l.length) : ∃ b off, p = some ⟨b, off, none⟩ ∧ len = l.length := by
 obtain ⟨ac, h1, h2, _⟩ := h
 have : ac.length = l.length := by rw [← h1]; simp
 rw [← this]; exact h2.blk (j := j) (by omega)
theorem AsksAt.row (h : AsksAt w (.slice (some ⟨b, off, none⟩) len cap) l) (hx : l[j]? = some a) : ∃ p c, RowAt w b (off + j * 10) (.int .i64 a.who :: opC a.o (.slice p a.o.d.length c)) ∧ BytesAt w (.slice p a.o.d.length c) a.o.d := by
 obtain ⟨ac, h1, h2, h3⟩ := h
 have hj : j < l.length := (List.getElem?_eq_some_iff.1 hx).1
 have hlen : ac.length = l.length := by rw [← h1]; simp
 obtain ⟨f, hf⟩ := get_lt (l := ac) (q := j) (by omega)
 have hfx : f.1 = a := by
  rw [← h1, List.getElem?_map, hf] at hx
  simpa using hx
 subst hfx
 have h4 := h3 f (List.mem_of_getElem? hf)
 obtain ⟨p, c, h5⟩ := h4.shape
 have hsl := h2.sl (by omega)
 obtain ⟨b', off', h6, h7⟩ := h2.blk (j := j) (by omega)
 cases h6; subst h7
 refine ⟨p, c, ?_, h5 ▸ h4⟩
 rw [← h5]
 have hfd : ((ac.flatMap askC).drop (j * 10)).take (askC f).length = askC f := flat_drop (m := 10) (by decide) (fun _ _ => rfl) hf
 exact hsl.row (j := j) (l := askC f) rfl hfd (by simp [askC])
end
end Go.Proofs.Ytebfjdolgchgaaa

namespace Go.Proofs.Ytebfjdolgchgaaa
open Go Go.Fw Go.RowKit
set_option linter.unusedVariables false
set_option linter.unusedSimpArgs false

def lz : List Raw := [([122], false, [98, 97, 115, 101])]
def lo1 : OpS := ⟨1, [97], [], 0, 0, 0, true, true, []⟩
def lo2 : OpS := ⟨3, [], [], 1, 2, 0, false, false, [120, 121]⟩
def lv1 : St3 := doS lz (fun _ _ => none) 0 lo1
def lv2 : St3 := doS lv1.2.1 lv1.2.2 0 lo2
end Go.Proofs.Ytebfjdolgchgaaa

namespace Go.Proofs.Ytebfjdolgchgaaa
open Go Go.Fw Go.RowKit
set_option linter.unusedVariables false
set_option linter.unusedSimpArgs false

structure OvI where
 bf : Nat
 bv : Value
 Lb : List (Nat × Obj)
 base : BaseF
def OvW (w00 : World) (X : List (Nat × Obj)) (I : OvI) (l : List Raw) (hf : HF) (w : World) : Prop :=
 ∃ S L, FR I.base S l hf ∧ BaseC w00 I.Lb I.bv I.base ∧ Sep w00 (X ++ (fsB I.bf I.bv (usedL l) S ++ (I.Lb ++ L))) w
section
variable {w00 w0 w w1 : World} {X Y : List (Nat × Obj)} {I : OvI} {l : List Raw} {hf : HF}
theorem OvW.frm (h : OvW w00 X I l hf w) : New w00 w := let ⟨_, _, _, _, M⟩ := h; M.frm
theorem OvW.at_ (h : OvW w00 X I l hf w) (k : Nat) {b : Nat} {o : Obj} (hk : X[k]? = some (b, o)) : w.heap[b]? = some o :=
 let ⟨_, _, _, _, M⟩ := h; M.get (List.mem_append_left _ (List.mem_of_getElem? hk))
theorem OvW.get (h : OvW w00 X I l hf w) {x : Nat × Obj} (hk : x ∈ X) : w.heap[x.1]? = some x.2 :=
 let ⟨_, _, _, _, M⟩ := h; M.get (List.mem_append_left _ hk)
theorem OvW.base (h : OvW w00 X I l hf w) {x : Nat × Obj} (hk : x ∈ I.Lb) : w.heap[x.1]? = some x.2 :=
 let ⟨_, _, _, _, M⟩ := h; M.get (List.mem_append_right _ (List.mem_append_right _ (List.mem_append_left _ hk)))
theorem OvW.acons (h : OvW w00 X I l hf w) {o : Obj} {b : Nat} (hb : b = w.heap.size) (hw : w1 = w.alloc o) : OvW w00 ((b, o) :: X) I l hf w1 :=
 let ⟨S, L, h1, h2, M⟩ := h; ⟨S, L, h1, h2, M.acons hb hw⟩
theorem OvW.put (h : OvW w00 X I l hf w) (k : Nat) {b : Nat} {o0 o : Obj} (hk : X[k]? = some (b, o0)) (hw : w1 = w.putObj b o) : OvW w00 (X.set k (b, o)) I l hf w1 := by
 obtain ⟨S, L, h1, h2, M⟩ := h
 have hl : k < X.length := (List.getElem?_eq_some_iff.1 hk).1
 have := M.put k (by rw [List.getElem?_append_left hl]; exact hk) hw (o := o)
 rw [List.set_append_left _ _ hl] at this
 exact ⟨S, L, h1, h2, this⟩
theorem OvW.new (h : OvW w00 X I l hf w) (hn : New w w1) : OvW w00 X I l hf w1 := let ⟨S, L, h1, h2, M⟩ := h; ⟨S, L, h1, h2, M.new hn⟩
theorem OvW.drew (h : OvW w00 X I l hf w) (hw : w1 = w.drew) : OvW w00 X I l hf w1 := let ⟨S, L, h1, h2, M⟩ := h; ⟨S, L, h1, h2, M.drew hw⟩
theorem OvW.grow (h : OvW w00 X I l hf w) (hc : Sep w Y w1) : OvW w00 (Y ++ X) I l hf w1 := by
 obtain ⟨S, L, h1, h2, M⟩ := h
 exact ⟨S, L, h1, h2, by simpa only [List.append_assoc] using M.grow' hc⟩
theorem OvW.sub (h : OvW w00 X I l hf w) (hs : Y.Sublist X) : OvW w00 Y I l hf w := let ⟨S, L, h1, h2, M⟩ := h; ⟨S, L, h1, h2, M.sub (List.Sublist.append hs (List.Sublist.refl _))⟩
theorem OvW.tail {x : Nat × Obj} (h : OvW w00 (x :: X) I l hf w) : OvW w00 X I l hf w := h.sub (List.sublist_cons_self _ _)
theorem OvW.dropL (h : OvW w00 (Y ++ X) I l hf w) : OvW w00 X I l hf w := h.sub (List.sublist_append_right _ _)
theorem OvW.perm (h : OvW w00 X I l hf w) (hs : X.Perm Y) : OvW w00 Y I l hf w := let ⟨S, L, h1, h2, M⟩ := h; ⟨S, L, h1, h2, M.perm (hs.append_right _)⟩
theorem OvW.names (h : OvW w00 X I l hf w) : (l.map (·.1)).Nodup := let ⟨_, _, h1, _, _⟩ := h; h1.names
theorem OvW.le (h : OvW w00 X I l hf w) : l.length ≤ 128 := by
 obtain ⟨_, _, h1, _, _⟩ := h
 have := h1.tr.le
 rwa [bare_len] at this

end
section
variable {l : List Raw} {hf : HF} {who : Int} {o : OpS}
end
end Go.Proofs.Ytebfjdolgchgaaa

namespace Go.Proofs.Ytebfjdolgchgaaa
open Go Go.Fw Go.RowKit
set_option linter.unusedVariables false
set_option linter.unusedSimpArgs false

section
variable {l : List Raw} {hf hf' : HF} {who : Int} {o : OpS}
theorem low_spec {i : Nat} (h : lowH hf who = some i) : i < 16 ∧ hf who ((i : Int) + 1) = none ∧ ∀ k < i, (hf who ((k : Int) + 1)).isSome = true := by
 unfold lowH at h
 rw [List.find?_eq_some_iff_getElem] at h
 obtain ⟨h1, k, hk, e, h2⟩ := h
 simp only [List.getElem_range] at e
 subst e
 refine ⟨by simpa using hk, by simpa using h1, fun j hj => ?_⟩
 have := h2 j hj
 simp only [List.getElem_range, Bool.not_eq_true', Option.isNone_eq_false_iff] at this
 simpa using this
end
end Go.Proofs.Ytebfjdolgchgaaa

namespace Go.Proofs.Ytebfjdolgchgaaa
open Go Go.Fw Go.RowKit
set_option linter.unusedVariables false
set_option linter.unusedSimpArgs false

section
variable {w00 w : World} {X : List (Nat × Obj)} {I : OvI} {l : List Raw} {hf : HF} {p q d b : List UInt8}
theorem OvW.len (M : OvW w00 X I l hf w) (h : (p, false, d) ∈ l) : d.length ≤ 65536 ∧ d.length ≤ usedL l := let ⟨_, _, h1, _, _⟩ := M; h1.le h
theorem OvW.found (M : OvW w00 X I l hf w) {z : Raw} (h : z ∈ l) : findL l z.1 = (z, 0) := let ⟨_, _, h1, _, _⟩ := M; h1.found h
theorem usedL_set (hn : (l.map (·.1)).Nodup) (h : (p, false, d) ∈ l) : usedL (setD l p b) + d.length = usedL l + b.length := by
 obtain ⟨A, B, h1, h2⟩ := setD_split (b := b) hn h
 rw [h2, h1, usedL_app, usedL_cons, usedL_app, usedL_cons]; simp only; omega

end
section
variable {w00 w0 : World} {X : List (Nat × Obj)} {I : OvI} {l l' : List Raw} {hf hf' : HF}
end
end Go.Proofs.Ytebfjdolgchgaaa

namespace Go.Proofs.Ytebfjdolgchgaaa
open Go Go.Fw Go.RowKit
set_option linter.unusedVariables false
set_option linter.unusedSimpArgs false

section
variable {g : Gf} {l : List Raw} {p x y b d : List UInt8} {N a c : NP}
theorem come_some (hG : GI g) : ∀ {r q : NP} {v : Bool × List UInt8}, g (q ++ r) = some v → comeG g q r = 0
 | [], q, v, h => rfl
 | n :: r, q, v, h => by
  obtain ⟨b, _, hb, _⟩ := hG.pre h (by simp)
  have h2 : g ((q ++ [n]) ++ r) = some v := by simpa using h
  have h3 : (g (q ++ [n])).isNone = false := by
   by_cases hr : r = []
   ·subst hr; rw [List.append_nil] at h2; rw [h2]; rfl
   ·obtain ⟨b2, _, hb2, _⟩ := hG.pre h2 hr
    rw [hb2]; rfl
  unfold comeG
  rw [hb]
  simp only
  rw [if_neg (by rw [h3]; simp)]
  exact come_some hG h2
theorem home_dir (hG : GI g) {root : Int} (hr : root ≠ 0) (h : homeG g p root = 0) : ∃ b, g (splitN p).dropLast = some (true, b) := by
 obtain ⟨h1, h2, h3⟩ := home_ok hr h
 unfold homeG at h
 rw [if_pos h1, if_neg h2] at h
 split at h
 ·rename_i h4
  split at h
  ·rename_i h5
   cases hv : g (splitN p).dropLast with
   | none => rw [hv] at h5; cases h5
   | some v =>
    obtain ⟨vd, vb⟩ := v
    rw [hv] at h5
    simp only [Option.getD_some] at h5
    exact ⟨vb, by rw [h5]⟩
  ·cases h
 ·rename_i h4; exact absurd h h4
theorem home_of (hG : GI g) {root : Int} {v : Bool × List UInt8} (hp : splitE p = 0) (h0 : splitN p ≠ []) (hv : g (splitN p) = some v) : homeG g p root = 0 := by
 have e : (splitN p).dropLast ++ [(splitN p).getLast h0] = splitN p := List.dropLast_concat_getLast h0
 rw [← e] at hv
 obtain ⟨b, hb⟩ := hG.par _ _ _ hv
 unfold homeG
 rw [if_pos hp, if_neg h0, if_pos (come_some hG (q := []) (r := (splitN p).dropLast) hb), hb]
 rfl
theorem GI.put (hG : GI g) (hN : POK N) (h0 : N ≠ []) (hd : ∃ b, g N.dropLast = some (true, b)) (hv : ∀ v, g N = some v → v.1 = false) {v : Bool × List UInt8} (hl : v.2.length ≤ 65536) (hb : v.1 = true → v.2 = [] ∧ g N = none) : GI (setG g N (some v)) := by
 have hother : ∀ q, q ≠ N → setG g N (some v) q = g q := fun q hq => by unfold setG; rw [if_neg hq]
 have hself : setG g N (some v) N = some v := by unfold setG; rw [if_pos rfl]
 refine ⟨by rw [hother [] (fun e => h0 e.symm)]; exact hG.root, fun q n u hu => ?_, fun q u hu => ?_⟩
 ·by_cases e : q ++ [n] = N
  ·obtain ⟨b, hb⟩ := hd
   have e2 : N.dropLast = q := by rw [← e]; simp
   rw [e2] at hb
   have hq : q ≠ N := fun e3 => by have := congrArg List.length (e3.trans e.symm); simp at this
   exact ⟨b, by rw [hother q hq]; exact hb⟩
  ·rw [hother _ e] at hu
   obtain ⟨b, hb2⟩ := hG.par q n u hu
   by_cases e2 : q = N
   ·rw [e2] at hb2
    have := hv _ hb2
    cases this
   ·exact ⟨b, by rw [hother q e2]; exact hb2⟩
 ·by_cases e : q = N
  ·subst e
   rw [hself] at hu
   cases hu
   exact ⟨hN, hl, fun h => (hb h).1⟩
  ·rw [hother q e] at hu
   exact hG.ok q u hu
theorem GI.gone (hG : GI g) (h0 : N ≠ []) (he : emptyG g N) : GI (setG g N none) := by
 have hother : ∀ q, q ≠ N → setG g N none q = g q := fun q hq => by unfold setG; rw [if_neg hq]
 have hin : ∀ q u, setG g N none q = some u → q ≠ N ∧ g q = some u := fun q u hu => by
  by_cases e : q = N
  ·subst e; unfold setG at hu; rw [if_pos rfl] at hu; cases hu
  ·exact ⟨e, by rw [← hother q e]; exact hu⟩
 refine ⟨by rw [hother [] (fun e => h0 e.symm)]; exact hG.root, fun q n u hu => ?_, fun q u hu => hG.ok q u (hin q u hu).2⟩
 obtain ⟨b, hb⟩ := hG.par q n u (hin _ _ hu).2
 have hq : q ≠ N := fun e => by subst e; have := (hin _ _ hu).2; rw [he n] at this; cases this
 exact ⟨b, by rw [hother q hq]; exact hb⟩
theorem GI.moved (hG : GI g) (ha0 : a ≠ []) (hc0 : c ≠ []) (hd : ∃ b, g c.dropLast = some (true, b)) (hnu : ¬ a.isPrefixOf c = true) (hfit : fitsG g a c) : GI (moveG g a c) := by
 have hno : ∀ q, ¬ c.isPrefixOf q = true → ¬ a.isPrefixOf q = true → moveG g a c q = g q := fun q h1 h2 => by unfold moveG; rw [if_neg h1, if_neg h2]
 have hin : ∀ r, moveG g a c (c ++ r) = g (a ++ r) := fun r => by unfold moveG; rw [if_pos (ipf_app c r), List.drop_left]
 have hout : ∀ q u, moveG g a c q = some u → (∃ r, q = c ++ r ∧ g (a ++ r) = some u) ∨ (¬ c.isPrefixOf q = true ∧ ¬ a.isPrefixOf q = true ∧ g q = some u) := fun q u hu => by
  by_cases h1 : c.isPrefixOf q = true
  ·obtain ⟨r, rfl⟩ := ipf.1 h1
   exact .inl ⟨r, rfl, by rw [← hin]; exact hu⟩
  ·by_cases h2 : a.isPrefixOf q = true
   ·unfold moveG at hu; rw [if_neg h1, if_pos h2] at hu; cases hu
   ·exact .inr ⟨h1, h2, by rw [← hno q h1 h2]; exact hu⟩
 refine ⟨?_, fun q n u hu => ?_, fun q u hu => ?_⟩
 ·rw [hno [] (fun e => by obtain ⟨t, ht⟩ := ipf.1 e; exact hc0 (by cases c with | nil => rfl | cons _ _ => cases ht)) (fun e => by obtain ⟨t, ht⟩ := ipf.1 e; exact ha0 (by cases a with | nil => rfl | cons _ _ => cases ht))]
  exact hG.root
 ·rcases hout _ _ hu with ⟨r, h1, h2⟩ | ⟨h1, h2, h3⟩
  ·rcases List.eq_nil_or_concat r with rfl | ⟨r', m, rfl⟩
   ·rw [List.append_nil] at h1
    obtain ⟨b, hb⟩ := hd
    have e2 : c.dropLast = q := by rw [← h1]; simp
    rw [e2] at hb
    refine ⟨b, ?_⟩
    rw [hno q (fun e => ?_) (fun e => ?_)]
    ·exact hb
    ·obtain ⟨t, ht⟩ := ipf.1 e
     have := congrArg List.length h1
     rw [ht] at this
     simp at this
    ·obtain ⟨t, ht⟩ := ipf.1 e
     exact hnu (ipf.2 ⟨t ++ [n], by rw [← h1, ht]; simp⟩)
   ·rw [List.concat_eq_append, ← List.append_assoc] at h1 h2
    have e1 := List.append_inj' h1 rfl
    obtain ⟨b, hb⟩ := hG.par _ _ _ h2
    rw [e1.1]
    exact ⟨b, by rw [hin]; exact hb⟩
  ·obtain ⟨b, hb⟩ := hG.par q n u h3
   refine ⟨b, ?_⟩
   rw [hno q (fun e => h1 ?_) (fun e => h2 ?_)]
   ·exact hb
   ·obtain ⟨t, ht⟩ := ipf.1 e; exact ipf.2 ⟨t ++ [n], by rw [ht]; simp⟩
   ·obtain ⟨t, ht⟩ := ipf.1 e; exact ipf.2 ⟨t ++ [n], by rw [ht]; simp⟩
 ·rcases hout _ _ hu with ⟨r, rfl, h2⟩ | ⟨h1, h2, h3⟩
  ·exact ⟨hfit r (by rw [h2]; simp), (hG.ok _ _ h2).2⟩
  ·exact hG.ok q u h3
end
def TreeL (l : List Raw) : Prop := ∃ g, GI g ∧ Rel g l
section
variable {l : List Raw} {p x y b d : List UInt8} {z : Raw}
theorem TreeL.names (h : TreeL l) : (l.map (·.1)).Nodup := let ⟨_, _, h2⟩ := h; srt_names h2.srt
theorem TreeL.row (h : TreeL l) (hz : z ∈ l) : splitE z.1 = 0 ∧ z.1 ≠ [] ∧ z.1.length ≤ 120 ∧ z.2.2.length ≤ 65536 ∧ (z.2.1 = true → z.2.2 = []) := by
 obtain ⟨g, hG, hR⟩ := h
 obtain ⟨h1, h2, h3, h4⟩ := hR.name (fun q v hv => (hG.ok q v hv).1) hz
 obtain ⟨g1, g2, g3⟩ := hG.ok _ _ h3
 exact ⟨h1, h4, by have := g1.2.2; rwa [joinS_splitN h1] at this, g2, g3⟩
theorem TreeL.found (h : TreeL l) (hz : z ∈ l) : findL l z.1 = (z, 0) := by
 obtain ⟨g, hG, hR⟩ := h
 obtain ⟨h1, h2, h3, h4⟩ := hR.name (fun q v hv => (hG.ok q v hv).1) hz
 have hf : findG g z.1 = 0 := by rw [findG_ok h1]; exact come_some hG (q := []) h3
 rw [hR.findL hG]
 unfold findV
 rw [if_pos hf, hf, h3]
 rfl
theorem TreeL.find (h : TreeL l) (h0 : (findL l p).2 = 0) (hp : p ≠ []) : (findL l p).1 ∈ l ∧ (findL l p).1.1 = p := by
 obtain ⟨z, hz, rfl⟩ := findL_mem h0 hp
 rw [h.found hz]
 exact ⟨hz, rfl⟩
theorem TreeL.absent (h : TreeL l) (h9 : (findL l p).2 = 9) : ∀ y ∈ l, y.1 ≠ p := fun y hy e => by
 rw [← e, h.found hy] at h9; cases h9
theorem TreeL.mkdir (h : TreeL l) (p : List UInt8) : TreeL (mkdirL l p).1 := by
 obtain ⟨g, hG, hR⟩ := h
 refine ⟨_, ?_, (hR.mkdir hG p).2⟩
 unfold mkdirG
 split
 ·rename_i h1
  split
  ·exact hG
  ·rename_i h2
   split
   ·exact hG
   ·obtain ⟨g1, g2, g3⟩ := home_ok (by decide) h1
    have hn : g (splitN p) = none := by simpa using h2
    exact hG.put (POK_split g1) g2 (home_dir hG (by decide) h1) (fun v hv => by rw [hn] at hv; cases hv) (by simp) (fun _ => ⟨rfl, hn⟩)
 ·exact hG
theorem TreeL.put (h : TreeL l) (p b : List UInt8) : TreeL (putL l p b).1 := by
 obtain ⟨g, hG, hR⟩ := h
 refine ⟨_, ?_, (hR.put hG p b).2⟩
 unfold putG
 split
 ·rename_i h1
  split
  ·exact hG
  ·rename_i h2
   split
   ·exact hG
   ·rename_i h3
    split
    ·exact hG
    ·obtain ⟨g1, g2, g3⟩ := home_ok (by decide) h1
     refine hG.put (POK_split g1) g2 (home_dir hG (by decide) h1) (fun v hv => ?_) (by simp only; omega) (fun h => by cases h)
     rw [hv] at h2
     simpa using h2
 ·exact hG
theorem TreeL.remove (h : TreeL l) (p : List UInt8) : TreeL (removeL l p).1 := by
 obtain ⟨g, hG, hR⟩ := h
 refine ⟨_, ?_, (hR.remove hG p).2⟩
 unfold removeG
 split
 ·rename_i h1
  split
  ·exact hG
  ·rename_i h2
   have hp : splitE p = 0 := Classical.byContradiction fun hp => by rw [findG_bad hp] at h1; exact hp h1
   exact hG.gone (fun e => h2 (.inl ((sN_nil hp).1 e))) (Classical.byContradiction fun he => h2 (.inr he))
 ·exact hG
theorem TreeL.rename (h : TreeL l) (x y : List UInt8) : TreeL (renameL l x y).1 := by
 obtain ⟨g, hG, hR⟩ := h
 refine ⟨_, ?_, (hR.rename hG x y).2⟩
 unfold renameG
 split
 ·rename_i h1
  split
  ·exact hG
  ·rename_i h2
   split
   ·rename_i h3
    split
    ·exact hG
    ·split
     ·exact hG
     ·rename_i h5
      split
      ·exact hG
      ·split
       ·exact hG
       ·rename_i h7
        have hx : splitE x = 0 := Classical.byContradiction fun hp => by rw [findG_bad hp] at h1; exact hp h1
        obtain ⟨g1, g2, g3⟩ := home_ok (by decide) h3
        exact hG.moved (fun e => h2 ((sN_nil hx).1 e)) g2 (home_dir hG (by decide) h3) (not_under hx g1 (by simpa using h5)) (Classical.not_not.1 h7)
   ·exact hG
 ·exact hG
theorem setD_srt (h : l.Pairwise ltR) : (setD l p b).Pairwise ltR := by
 unfold setD
 rw [List.pairwise_map]
 refine h.imp fun {u v} huv => ?_
 unfold ltR at huv ⊢
 have e : ∀ w : Raw, (if w.1 = p then (w.1, w.2.1, b) else w).1 = w.1 := fun w => by split <;> rfl
 rw [e u, e v]; exact huv
theorem TreeL.putD (h : TreeL l) (hp : (p, false, d) ∈ l) (hb : b.length ≤ 65536) : putL l p b = (setD l p b, 0) := by
 have hn := h.names
 obtain ⟨h1, h2, _⟩ := h.row hp
 have hh : homeL l p 16 = 0 := by
  obtain ⟨g, hG, hR⟩ := h
  obtain ⟨g1, g2, g3, g4⟩ := hR.name (fun q v hv => (hG.ok q v hv).1) hp
  rw [hR.home hG]
  exact home_of hG g1 g2 g3
 have hf : l.find? (fun x => decide (x.1 = p)) = some (p, false, d) := find_nd hn hp
 have h3 : (putL l p b).1 = withR (l.eraseIdx (atR l p).toNat) (p, false, b) ∧ (putL l p b).2 = 0 := by
  unfold putL
  rw [if_pos hh, hf]
  simp only
  rw [if_neg (by simp), if_neg (by omega)]
  exact ⟨rfl, rfl⟩
 have h4 : withR (l.eraseIdx (atR l p).toNat) (p, false, b) = setD l p b := by
  obtain ⟨j, hj, hat⟩ := row_of hp hn
  simp only at hat
  rw [hat, Int.toNat_natCast]
  obtain ⟨g, hG, hR⟩ := h
  have hs := hR.srt
  refine srt_ext (withR_srt (hs.sublist (List.eraseIdx_sublist l j)) (fun y hy => ?_)) (setD_srt hs) (fun z => ?_)
  ·exact ((mem_erase hn hj).1 hy).2
  ·rw [withR_mem, mem_setD, mem_erase hn hj]
   constructor
   ·rintro (rfl | ⟨g1, g2⟩)
    ·exact .inr ⟨rfl, rfl, _, hp, rfl, rfl⟩
    ·exact .inl ⟨g1, g2⟩
   ·rintro (⟨g1, g2⟩ | ⟨g1, g2, y, g3, g4, g5⟩)
    ·exact .inr ⟨g1, g2⟩
    ·left
     have := names_inj hn g3 hp g4
     subst this
     obtain ⟨z1, z2, z3⟩ := z
     simp only at g1 g2 g5
     rw [g1, g2, ← g5]
 exact Prod.ext (h3.1.trans h4) h3.2
end
end Go.Proofs.Ytebfjdolgchgaaa

namespace Go.Proofs.Ytebfjdolgchgaaa
open Go Go.Fw Go.RowKit
set_option linter.unusedVariables false
set_option linter.unusedSimpArgs false

abbrev Opn := Int × Int × List UInt8 × Bool
def oR (x : Opn) : List Value := [.int .i64 x.1, .int .i64 x.2.1, strV x.2.2.1, .bool x.2.2.2]
def oCs (hl : List Opn) : List Value := hl.flatMap oR
def isO (who n : Int) (x : Opn) : Bool := decide (x.1 = who ∧ x.2.1 = n)
def hfL (hl : List Opn) : HF := fun a n => (hl.find? (isO a n)).map fun x => (x.2.2.1, x.2.2.2)
def atO (hl : List Opn) (who n : Int) : Int := idxI hl (isO who n)
abbrev OpnAt (w : World) (v : Value) (hl : List Opn) : Prop := Sg w v 4 hl.length (oCs hl)
theorem oCs_len (hl : List Opn) : (oCs hl).length = hl.length * 4 := flat_len (e1 := oR) (fun _ _ => rfl)
theorem oCs_one (hl : List Opn) : ∀ u ∈ oCs hl, u.oneCell' = true := by
 intro u hu
 obtain ⟨x, _, hu⟩ := List.mem_flatMap.1 hu
 unfold oR at hu
 simp only [List.mem_cons, List.not_mem_nil, or_false] at hu
 rcases hu with rfl | rfl | rfl | rfl <;> rfl
theorem oCs_app (a b : List Opn) : oCs (a ++ b) = oCs a ++ oCs b := List.flatMap_append
section
variable {w w1 : World} {v : Value} {hl : List Opn} {p : Option Addr} {b off len cap j : Nat} {x : Opn} {who n : Int}
theorem OpnAt.blk (h : OpnAt w (.slice p len cap) hl) (hj : j < hl.length) : ∃ b off, p = some ⟨b, off, none⟩ ∧ len = hl.length := Sg.blk (j := j) h hj
theorem OpnAt.row (h : OpnAt w (.slice (some ⟨b, off, none⟩) len cap) hl) (hx : hl[j]? = some x) : RowAt w b (off + j * 4) (oR x) := by
 have hj : j < hl.length := (List.getElem?_eq_some_iff.1 hx).1
 obtain ⟨b', off', h6, h7⟩ := OpnAt.blk h hj
 cases h6; subst h7
 exact (Sg.sl h (by omega)).row (j := j) (l := oR x) rfl (flat_drop (m := 4) (e1 := oR) (by decide) (fun _ _ => rfl) hx) (by simp [oR])
theorem atO_at (hx : hl[j]? = some x) (hno : ∀ y ∈ hl.take j, isO who n y = false) (h : isO who n x = true) : atO hl who n = (j : Int) := idxI_at hx hno h
theorem atO_no (hno : ∀ y ∈ hl, isO who n y = false) : atO hl who n = -1 := idxI_no hno
theorem atO_cases (hl : List Opn) (who n : Int) : (∃ j x, hl[j]? = some x ∧ isO who n x = true ∧ atO hl who n = (j : Nat) ∧ (∀ y ∈ hl.take j, isO who n y = false) ∧ hfL hl who n = some (x.2.2.1, x.2.2.2)) ∨ ((∀ y ∈ hl, isO who n y = false) ∧ atO hl who n = -1 ∧ hfL hl who n = none) := by
 unfold atO idxI hfL
 cases h : hl.findIdx? (isO who n) with
 | none =>
  right
  have h2 := List.findIdx?_eq_none_iff.1 h
  refine ⟨fun y hy => by simpa using h2 y hy, rfl, ?_⟩
  rw [List.find?_eq_none.2 (fun y hy => by rw [h2 y hy]; simp)]; rfl
 | some j =>
  left
  obtain ⟨h1, h2, h3⟩ := List.findIdx?_eq_some_iff_getElem.1 h
  have hno : ∀ y ∈ hl.take j, isO who n y = false := fun y hy => by
   obtain ⟨i, hi, rfl⟩ := List.mem_take_iff_getElem.1 hy
   have := h3 i (by omega)
   simpa using this
  refine ⟨j, hl[j], List.getElem?_eq_getElem h1, h2, rfl, hno, ?_⟩
  have : hl.find? (isO who n) = some hl[j] := by
   rw [List.find?_eq_some_iff_getElem]
   exact ⟨h2, j, h1, rfl, fun i hi => by rw [hno _ (List.mem_take_iff_getElem.2 ⟨i, by omega, rfl⟩)]; rfl⟩
  rw [this]; rfl
theorem atO_some : (0 ≤ atO hl who n) ↔ (hfL hl who n).isSome = true := by
 rcases atO_cases hl who n with ⟨j, x, _, _, h1, _, h2⟩ | ⟨_, h1, h2⟩
 ·rw [h1, h2]; simp
 ·rw [h1, h2]; simp
end
theorem used_takeL (l : List Raw) (j : Nat) : usedL (l.take j) ≤ usedL l := by
 conv => rhs; rw [← List.take_append_drop j l]
 rw [usedL_app]; omega
theorem used_snoc {l : List Raw} {j : Nat} {x : Raw} (hx : l[j]? = some x) : usedL (l.take (j + 1)) = usedL (l.take j) + x.2.2.length := by
 rw [take_snoc hx, usedL_app, usedL_cons]; simp [usedL]
end Go.Proofs.Ytebfjdolgchgaaa

namespace Go.Proofs.Ytebfjdolgchgaaa
open Go Go.Fw Go.RowKit
set_option linter.unusedVariables false
set_option linter.unusedSimpArgs false

section
variable {b d : List UInt8} {o : OpS} {a : Nat}

theorem over_zero (s : List UInt8) : overB s (d.take 0) a = s := by unfold overB; simp
theorem over_step {s : List UInt8} {q : Nat} {c : UInt8} (hq : d[q]? = some c) (h : a + d.length ≤ s.length) : overB s (d.take (q + 1)) a = (overB s (d.take q) a).set (a + q) c := by
 have hl : q < d.length := (List.getElem?_eq_some_iff.1 hq).1
 unfold overB
 rw [take_snoc hq]
 have e1 : (d.take q).length = q := by rw [List.length_take]; omega
 have e2 : (s.take a).length = a := by rw [List.length_take]; omega
 rw [List.length_append, e1]
 rw [List.set_append_right _ _ (by rw [List.length_append, e1, e2]; exact Nat.le_refl _), List.length_append, e1, e2, Nat.sub_self]
 have e3 : s.drop (a + q) = s[a + q]'(by omega) :: s.drop (a + q + 1) := List.drop_eq_getElem_cons (by omega)
 rw [e3]
 simp [List.append_assoc, Nat.add_assoc]
end
theorem bytes_sub2 {w : World} {v : Value} {b : List UInt8} {j k : Nat} (h : Sg w v 1 k (((byteCs b).drop (j * 1)).take (k * 1))) : BytesAt w v ((b.drop j).take k) := by
 have hl := h.len
 have e : ((byteCs b).drop (j * 1)).take (k * 1) = byteCs ((b.drop j).take k) := by rw [Nat.mul_one, Nat.mul_one]; unfold byteCs; rw [List.map_take, List.map_drop]
 rw [e] at h hl
 rw [byteCs_len] at hl
 unfold BytesAt
 rw [hl, Nat.mul_one]
 exact h
theorem bytes_set {L : List (Nat × Obj)} {v : Value} {n : Nat} {s : List UInt8} {j : Nat} {c : UInt8} (h : OwL L v 1 n (byteCs s)) (hj : j < s.length) : ∃ blk cap rest T, v = .slice (some ⟨blk, 0, none⟩) n cap ∧ L = [(blk, .cells (byteCs s ++ rest).toArray T (0, 0))] ∧
  OwL [(blk, .cells ((byteCs s ++ rest).take (0 + j * 1) ++ [byteV c] ++ (byteCs s ++ rest).drop (0 + j * 1 + 1)).toArray T (0, 0))] v 1 n (byteCs (s.set j c)) := by
 rcases h with ⟨_, rfl, h2, _⟩ | ⟨blk, cap, rest, T, rfl, rfl, h3, h4⟩
 ·have := congrArg List.length h2
  rw [byteCs_len] at this
  simp only [List.length_nil] at this
  omega
 ·refine ⟨blk, cap, rest, T, rfl, rfl, .inr ⟨blk, cap, rest, T, rfl, ?_, by rw [byteCs_len, List.length_set, ← byteCs_len]; exact h3, by rw [List.length_append, byteCs_len, List.length_set, ← byteCs_len, ← List.length_append]; exact h4⟩⟩
  have hl : j < (byteCs s).length := by rw [byteCs_len]; exact hj
  rw [Nat.zero_add, Nat.mul_one, List.take_append_of_le_length (by omega), List.drop_append_of_le_length (by omega)]
  congr 4
  have e : byteCs (s.set j c) = (byteCs s).set j (byteV c) := by unfold byteCs; rw [List.map_set]
  rw [e, List.set_eq_take_append_cons_drop, if_pos hl]
  simp
end Go.Proofs.Ytebfjdolgchgaaa

namespace Go.Proofs.Ytebfjdolgchgaaa
open Go Go.Fw Go.RowKit
set_option linter.unusedVariables false
set_option linter.unusedSimpArgs false

section
variable {h : Nat → Nat} {n i : Nat}
end
def hC (h : Nat → Nat) : List Value := (List.range 12).map fun k => .int .i64 ((h k : Nat) : Int)
def zCs (l : List Int) : List Value := l.map fun z => .int .i64 z
abbrev ZsAt (w : World) (v : Value) (l : List Int) : Prop := Sg w v 1 l.length (zCs l)
theorem ZsAt.cell {w : World} {b off n cap j : Nat} {l : List Int} {z : Int} (h : ZsAt w (.slice (some ⟨b, off, none⟩) n cap) l) (hz : l[j]? = some z) : w.cell? ⟨b, off + j * 1, none⟩ = some (.int .i64 z) := by
 have hj : j < l.length := (List.getElem?_eq_some_iff.1 hz).1
 have h1 := Sg.sl h (by omega)
 obtain ⟨b', off', h6, h7⟩ := Sl.blk h1 hj
 cases h6; subst h7
 exact Sl.cell1 h1 (by unfold zCs; rw [List.getElem?_map, hz]; rfl)
end Go.Proofs.Ytebfjdolgchgaaa

namespace Go.Proofs.Ytebfjdolgchgaaa
open Go Go.Fw Go.RowKit
set_option linter.unusedVariables false
set_option linter.unusedSimpArgs false

theorem rs_no {a b : RsS} (h : a.e ≠ b.e ∨ a.h ≠ b.h ∨ a.n ≠ b.n ∨ a.d ≠ b.d) : decide (a = b) = false := by
 apply decide_eq_false
 rintro rfl
 rcases h with h | h | h | h <;> exact h rfl
theorem rs_yes {a b : RsS} (h1 : a.e = b.e) (h2 : a.h = b.h) (h3 : a.n = b.n) (h4 : a.d = b.d) : decide (a = b) = decide (a.l = b.l) := by
 obtain ⟨e, h, n, d, l⟩ := a
 obtain ⟨e', h', n', d', l'⟩ := b
 simp only at h1 h2 h3 h4
 subst h1 h2 h3 h4
 simp

section
variable {j off : Nat} {h : Hd}
end
end Go.Proofs.Ytebfjdolgchgaaa

namespace Go.Proofs.Ytebfjdolgchgaaa
open Go Go.Fw Go.RowKit Go.Proofs
set_option linter.unusedVariables false
set_option linter.unusedSimpArgs false
set_option maxRecDepth 100000
set_option maxHeartbeats 4000000

-- valise/valiseref19.Same
theorem rsame_c {w0 : World} {dv lv dv2 lv2 : Value} {a b : RsS} (hd : BytesAt w0 dv a.d) (hs : StrsAt w0 lv a.l) (hd2 : BytesAt w0 dv2 b.d) (hs2 : StrsAt w0 lv2 b.l) (hla : a.l.length ≤ 1099511627776) : Ret Try.prog 25 #[rsV a dv lv, rsV b dv2 lv2] w0 fun r w' => r = .bool (decide (a = b)) ∧ New w0 w' := by
 have M : Sep w0 [] w0 := St.nil w0
 obtain ⟨p1, c1, rfl⟩ := hd.shape
 obtain ⟨p2, c2, rfl⟩ := Sg.shape hs
 obtain ⟨p3, c3, rfl⟩ := hd2.shape
 obtain ⟨p4, c4, rfl⟩ := Sg.shape hs2
 refine Ret.of_W Try.func25 rfl Try.ntmps25 rfl ?_
 refine go 1 ?_
 intro _ _ M
 refine go 1 ?_
 intro _ _ M
 refine go 0 ?_
 refine W.reg [(0, false), (1, false), (2, false), (3, false), (4, false), (5, false), (6, false), (7, false), (8, false), (9, false), (10, false), (11, false), (12, false), (13, false), (14, false), (15, false), (16, false), (17, false), (18, false), (19, false), (20, false), (21, false), (22, false), (23, false), (24, false), (25, false), (26, false), (27, false), (28, false), (29, false), (30, false), (31, false), (32, false), (33, true), (34, false), (35, false)] (by kernel_rfl) ?_
 intro K hK
 refine spl 3 10 ?_ ?_
 ·intro hsp1
  refine spl 3 17 ?_ ?_
  ·intro hsp2
   refine spl 3 24 ?_ ?_
   ·intro hsp3
    refine go 1 ?_
    refine x_cvbs _ rfl rfl rfl Try.underlying56 Try.underlying5 Try.underlying9 rfl (strOf_bytes (hd.new M.frm)) ?_
    refine go 1 ?_
    refine x_cvbs _ rfl rfl rfl Try.underlying56 Try.underlying5 Try.underlying9 rfl (strOf_bytes (hd2.new M.frm)) ?_
    refine spl 1 33 ?_ ?_
    ·intro hsp4
     refine go 2 ?_
     refine x_call rfl rfl rfl rfl rfl en41 (same_c (hs.new M.frm) (hs2.new M.frm) hla) ?_
     rintro r_ w1 ⟨rfl, hn1⟩
     have M := M.new hn1
     refine ⟨trivial, ?_⟩
     refine go 1 ?_
     exact ⟨by rw [rs_yes hsp1 hsp2 hsp3 hsp4], M.frm⟩
    ·intro hsp4
     refine go 1 ?_
     exact ⟨by rw [rs_no (.inr (.inr (.inr hsp4)))], M.frm⟩
   ·intro hsp3
    refine go 1 ?_
    exact ⟨by rw [rs_no (.inr (.inr (.inl hsp3)))], M.frm⟩
  ·intro hsp2
   refine go 1 ?_
   exact ⟨by rw [rs_no (.inr (.inl hsp2))], M.frm⟩
 ·intro hsp1
  refine go 1 ?_
  exact ⟨by rw [rs_no (.inl hsp1)], M.frm⟩

end Go.Proofs.Ytebfjdolgchgaaa

namespace Go.Proofs.Ytebfjdolgchgaaa
open Go Go.Fw Go.RowKit Go.Proofs
set_option linter.unusedVariables false
set_option linter.unusedSimpArgs false
set_option maxRecDepth 100000
set_option maxHeartbeats 4000000

-- (valise/valiseref19.FS).at
theorem rat_c {w0 : World} {u hv : Value} {hl : List Opn} {who n : Int} (h : OpnAt w0 hv hl) (hlen : hl.length ≤ 100000) : Ret Try.prog 50 #[.agg #[u, hv], .int .i64 who, .int .i64 n] w0 fun r w' => r = .int .i64 (atO hl who n) ∧ New w0 w' := by
 have M : Sep w0 [] w0 := St.nil w0
 obtain ⟨ph, chh, rfl⟩ := Sg.shape h
 refine Ret.of_W Try.func50 rfl Try.ntmps50 rfl ?_
 refine go 1 ?_
 intro bbx1 _ M
 refine go 0 ?_
 refine W.loop (σ := Nat) (fun j => [(1, _), (2, _), (3, _), (7, .int .i64 ((j : Nat) : Int))]) (fun j w => j ≤ hl.length ∧ (∀ y ∈ hl.take j, isO who n y = false) ∧ Sep w0 [(bbx1, .cells [u, .slice ph hl.length chh].toArray 36 (0, 0))] w) (fun j => hl.length - j) 0 ⟨rfl, rfl, rfl, rfl, trivial⟩ ⟨Nat.zero_le _, by simp, M⟩ ?_
 rintro j w ⟨hj, hno, M⟩
 refine cnd 3 ?_ ?_
 ·intro hco1
  obtain ⟨x, hx⟩ := get_lt (l := hl) (q := j) (by omega)
  obtain ⟨bb, off, rfl, _⟩ := OpnAt.blk (h.new M.frm) (j := j) (by omega)
  have hrow := OpnAt.row (h.new M.frm) hx
  refine go 1 ?_
  refine x_ia j rfl rfl rfl Try.underlying34 sz118 rfl rfl rfl (by omega) ?_
  refine go 0 ?_
  refine x_ld rfl rfl rfl Try.underlying3 rfl rfl (RowAt.cell hrow (j := 0) rfl) ?_
  refine spl 1 23 ?_ ?_
  ·intro hsp1
   refine go 1 ?_
   refine x_ia j rfl rfl rfl Try.underlying34 sz118 rfl rfl rfl (by omega) ?_
   refine go 0 ?_
   refine x_ld rfl rfl rfl Try.underlying3 rfl rfl (RowAt.cell hrow (j := 1) rfl) ?_
   refine cnd 1 ?_ ?_
   ·intro hco2
    refine go 1 ?_
    exact ⟨by rw [atO_at hx hno (by unfold isO; exact decide_eq_true ⟨hsp1, hco2⟩)], M.frm⟩
   ·intro hco2
    refine go 0 ?_
    refine x_add _ rfl rfl rfl rfl rfl (wadd (by omega) (by omega)) ?_
    refine go 0 ?_
    exact At.back (j + 1) ⟨rfl, rfl, rfl, rfl, trivial⟩ ⟨by omega, mem_take_snoc hx hno (by unfold isO; exact decide_eq_false (fun e => hco2 e.2)), M⟩ (by first | omega | (simp only; omega) | (simp; done) | (simp; omega))
  ·intro hsp1
   refine go 0 ?_
   refine x_add _ rfl rfl rfl rfl rfl (wadd (by omega) (by omega)) ?_
   refine go 0 ?_
   exact At.back (j + 1) ⟨rfl, rfl, rfl, rfl, trivial⟩ ⟨by omega, mem_take_snoc hx hno (by unfold isO; exact decide_eq_false (fun e => hsp1 e.1)), M⟩ (by first | omega | (simp only; omega) | (simp; done) | (simp; omega))
 ·intro hco1
  refine go 1 ?_
  have hj2 : j = hl.length := by omega
  subst hj2
  rw [List.take_length] at hno
  exact ⟨by rw [atO_no hno], M.frm⟩

-- (valise/valiseref19.FS).Used
theorem rused_c {w0 : World} {u hv : Value} {l : List Raw} (h : FilesAt w0 u l) (hlen : l.length ≤ 100000) (hul : usedL l ≤ 1099511627776) : Ret Try.prog 47 #[.agg #[u, hv]] w0 fun r w' => r = .int .i64 (usedL l : Int) ∧ New w0 w' := by
 have M : Sep w0 [] w0 := St.nil w0
 obtain ⟨ph, chh, rfl⟩ := h.shape
 refine Ret.of_W Try.func47 rfl Try.ntmps47 rfl ?_
 refine go 1 ?_
 intro bbx1 _ M
 refine go 0 ?_
 refine W.loop (σ := Nat) (fun j => [(1, _), (3, .int .i64 ((usedL (l.take j) : Nat) : Int)), (4, .int .i64 ((j : Nat) : Int))]) (fun j w => j ≤ l.length ∧ Sep w0 [(bbx1, .cells [.slice ph l.length chh, hv].toArray 36 (0, 0))] w) (fun j => l.length - j) 0 ⟨rfl, rfl, rfl, trivial⟩ ⟨Nat.zero_le _, M⟩ ?_
 rintro j w ⟨hj, M⟩
 have hut := used_takeL l j
 refine cnd 3 ?_ ?_
 ·intro hco1
  obtain ⟨x, hx⟩ := get_lt (l := l) (q := j) (by omega)
  obtain ⟨bb, off, rfl, _⟩ := (h.new M.frm).blk (j := j) (by omega)
  obtain ⟨px, cx, hrow, _⟩ := (h.new M.frm).row hx
  have hut2 := used_takeL l (j + 1)
  have hus := used_snoc hx
  refine go 1 ?_
  refine x_ia j rfl rfl rfl Try.underlying31 sz88 rfl rfl rfl (by omega) ?_
  refine go 0 ?_
  refine x_ld rfl rfl rfl Try.underlying56 rfl rfl (RowAt.cell hrow (j := 2) rfl) ?_
  refine go 1 ?_
  refine x_add ((usedL (l.take (j + 1)) : Nat) : Int) rfl rfl rfl rfl rfl (by rw [wadd (by omega) (by omega), hus]; omega) ?_
  refine go 0 ?_
  refine x_add _ rfl rfl rfl rfl rfl (wadd (by omega) (by omega)) ?_
  refine go 0 ?_
  exact At.back (j + 1) ⟨rfl, rfl, rfl, trivial⟩ ⟨by omega, M⟩ (by first | omega | (simp only; omega) | (simp; done) | (simp; omega))
 ·intro hco1
  refine go 1 ?_
  have hj2 : j = l.length := by omega
  subst hj2
  rw [List.take_length]
  exact ⟨rfl, M.frm⟩

-- (valise/valiseref19.FS).Handles
theorem rhdls_c {w0 : World} {u hv : Value} {hl : List Opn} {who : Int} (h : OpnAt w0 hv hl) (hlen : hl.length ≤ 100000) : Ret Try.prog 53 #[.agg #[u, hv], .int .i64 who] w0 fun r w' => ∃ Lr, IntsO Lr r (openL (hfL hl) who) ∧ Sep w0 Lr w' := by
 have M : Sep w0 [] w0 := St.nil w0
 obtain ⟨ph, chh, rfl⟩ := Sg.shape h
 refine Ret.of_W Try.func53 rfl Try.ntmps53 rfl ?_
 refine go 1 ?_
 intro bbx1 _ M
 refine go 0 ?_
 refine W.loop (σ := Nat × Value × List (Nat × Obj)) (fun q => [(1, _), (2, _), (5, q.2.1), (6, .int .i64 (((q.1 + 1 : Nat)) : Int))]) (fun q w => q.1 ≤ 16 ∧ IntsO q.2.2 q.2.1 (openN (hfL hl) who q.1) ∧ Sep w0 (q.2.2 ++ [(bbx1, .cells [u, .slice ph hl.length chh].toArray 36 (0, 0))]) w) (fun q => 16 - q.1) (0, .slice none 0 0, []) ⟨rfl, rfl, rfl, rfl, trivial⟩ ⟨by omega, OwL.nil, M⟩ ?_
 rintro ⟨i, v, Lo⟩ w ⟨hi16, ho, M⟩
 simp only at hi16 ho M
 have hlen2 := openN_len (hfL hl) who i
 obtain ⟨pv, cv, rfl⟩ := ho.shape
 refine cnd 1 ?_ ?_
 ·intro hco1
  refine go 0 ?_
  refine x_ldA [_, _] rfl rfl rfl Try.underlying36 rfl sz36 rfl rfl ⟨_, _, _, M.get (b := bbx1) (o := (bbx1, .cells [u, .slice ph hl.length chh].toArray 36 (0, 0)).2) (by simp), rfl⟩ ?_
  refine go 0 ?_
  refine x_call rfl rfl rfl rfl rfl en50 (rat_c (h.new M.frm) hlen) ?_
  rintro r_ wcall1 ⟨rfl, hncall1⟩
  have M := M.new hncall1
  have hat := atO_some (hl := hl) (who := who) (n := ((i + 1 : Nat) : Int))
  refine ⟨trivial, ?_⟩
  refine cnd 1 ?_ ?_
  ·intro hco2
   have hsome : (hfL hl who ((i : Int) + 1)).isSome = true := by have := hat.1 (by omega); simpa using this
   refine go 0 ?_
   refine x_bs1 (cs := [_]) rfl rfl rfl Try.underlying23 sz3 ze3 (Z := [_]) rfl rfl (by decide) (by decide) rfl rfl rfl ?_
   intro bbs1 wbs1 hbbs1 hwbs1
   have M0 := M.acons hbbs1 hwbs1
   have hslbs1 : Sl wbs1 (.slice (some ⟨bbs1, 0, none⟩) 1 1) 1 1 [.int .i64 ((i + 1 : Nat) : Int)] := .inr ⟨bbs1, 0, 1, _, _, _, rfl, by omega, M0.at_ 0 rfl, rfl, rfl⟩
   have M := M0.tail
   refine ⟨trivial, ?_⟩
   refine x_apL rfl rfl rfl rfl Try.underlying23 sz3 ze3 rfl by3 rfl rfl ho M (intCs_one _) (hslbs1.src Try.underlying23 (by simp [Value.oneCell'])) (by omega) (by decide) (by omega) ?_
   intro Lo2 v6 w6 how M
   refine ⟨trivial, ?_⟩
   refine go 0 ?_
   refine x_add ((i + 1 + 1 : Nat) : Int) rfl rfl rfl rfl rfl (by simp only; rw [wadd (by omega) (by omega)]; omega) ?_
   refine go 0 ?_
   exact At.back ((i + 1, v6, Lo2)) ⟨rfl, rfl, rfl, rfl, trivial⟩ ⟨by simp only; omega, by simp only; rw [openN_yes hsome]; exact intsO_snoc how, M⟩ (by first | omega | (simp only; omega) | (simp; done) | (simp; omega))
  ·intro hco2
   have hsome : (hfL hl who ((i : Int) + 1)).isSome = false := by
    cases hq : (hfL hl who ((i : Int) + 1)).isSome with
    | false => rfl
    | true => have := hat.2 (by simpa using hq); omega
   refine go 0 ?_
   refine x_add ((i + 1 + 1 : Nat) : Int) rfl rfl rfl rfl rfl (by simp only; rw [wadd (by omega) (by omega)]; omega) ?_
   refine go 0 ?_
   exact At.back ((i + 1, _, Lo)) ⟨rfl, rfl, rfl, rfl, trivial⟩ ⟨by simp only; omega, by simp only; rw [openN_no hsome]; exact ho, M⟩ (by first | omega | (simp only; omega) | (simp; done) | (simp; omega))
 ·intro hco1
  refine go 1 ?_
  have hi2 : i = 16 := by omega
  subst hi2
  exact ⟨Lo, ho, M.dropR⟩

-- valise/valiseref19.bad
theorem rbad_c {w0 : World} {e : Int}  : Ret Try.prog 37 #[.int .i64 e] w0 fun r w' => r = rsV (badS e) (.slice none 0 0) (.slice none 0 0) ∧ New w0 w' := by
 have M : Sep w0 [] w0 := St.nil w0
 refine Ret.of_W Try.func37 rfl Try.ntmps37 rfl ?_
 refine go 1 ?_
 intro _ _ M
 refine go 2 ?_
 intro _ M
 refine go 1 ?_
 exact ⟨rfl, M.frm⟩

end Go.Proofs.Ytebfjdolgchgaaa

namespace Go.Proofs.Ytebfjdolgchgaaa
open Go Go.Fw Go.RowKit Go.Proofs
set_option linter.unusedVariables false
set_option linter.unusedSimpArgs false
set_option maxRecDepth 100000
set_option maxHeartbeats 4000000

-- (valise/valiseref16.Tree).Find
theorem rfindK_c {w00 w0 : World} {L X : List (Nat × Obj)} {u : Value} {l : List Raw} {p : List UInt8} (M0 : Sep w00 (L ++ X) w0) (hF : FilesK w00 L u l) (hl : l.length ≤ 1000) : Ret Try.prog 55 #[.agg #[u], strV p] w0 fun r w' => ∃ dv, r = .tuple #[.agg #[strV (findL l p).1.1, .bool (findL l p).1.2.1, dv], .int .i64 (findL l p).2] ∧ SgK w00 L dv 1 (findL l p).1.2.2.length (byteCs (findL l p).1.2.2) ∧ New w0 w' := by
 have M : Sep w0 [] w0 := St.nil w0
 have h := hF.at_ M0 (fun y hy => by simp [hy])
 obtain ⟨pv, cv, rfl⟩ := h.shape
 refine Ret.of_W Try.func55 rfl Try.ntmps55 rfl ?_
 refine go 1 ?_
 intro bbx1 _ M
 refine go 1 ?_
 intro bal1 _ M
 refine go 0 ?_
 refine x_call rfl rfl rfl rfl rfl en69 (rsplit_c) ?_
 rintro r_ w1 ⟨v1, L1, rfl, M1, hs1⟩
 have M := M.grow M1
 obtain ⟨p1, c1, rfl, hcap1⟩ := hs1.shape2 (by decide)
 have hsl := splitN_len p
 refine ⟨trivial, ?_⟩
 refine cnd 1 ?_ ?_
 ·intro hco1
  refine go 2 ?_
  intro _ M
  refine go 1 ?_
  have hF : findL l p = (fileZ, 8) := by unfold findL; rw [if_neg hco1]
  rw [hF]; exact ⟨_, rfl, SgK.own (L' := []) OwL.nil (by decide) (by simp), M.frm⟩
 ·intro hco1
  have hF : findL l p = findF l [] (splitN p) ([], true, []) := by unfold findL; rw [if_pos hco1]
  have hPK := POK_split hco1
  refine go 2 ?_
  intro bal2 _ M
  refine go 1 ?_
  intro _ M
  refine go 0 ?_
  refine W.loop (σ := Nat × Raw × Value) (fun q => [(2, _), (4, _), (6, _), (8, _), (9, .int .i64 ((q.1 : Nat) : Int))]) (fun q w => q.1 ≤ (splitN p).length ∧ findL l p = findF l ((splitN p).take q.1) ((splitN p).drop q.1) q.2.1 ∧ SgK w00 L q.2.2 1 q.2.1.2.2.length (byteCs q.2.1.2.2) ∧ Sep w0 ([(bal2, .cells [strV q.2.1.1, .bool q.2.1.2.1, q.2.2].toArray 88 (0, 0)), (bal1, .cells [.string ByteArray.empty, .bool false, .slice none 0 0].toArray 88 (0, 0)), (bbx1, .cells [.slice pv l.length cv].toArray 33 (0, 0))] ++ L1) w) (fun q => (splitN p).length - q.1) (0, ([], true, []), .slice none 0 0) ⟨rfl, rfl, rfl, rfl, rfl, trivial⟩ ⟨Nat.zero_le _, hF, SgK.own (L' := []) OwL.nil (by decide) (by simp), M⟩ ?_
  rintro ⟨j, f, dv⟩ w ⟨hj, hfj, hb, M⟩
  simp only at hj hfj hb M
  obtain ⟨pd, cd, rfl⟩ := (hb _ _ M0 (fun y hy => by simp [hy])).shape
  refine cnd 2 ?_ ?_
  ·intro hco2
   obtain ⟨n, hn⟩ := get_lt (l := splitN p) (q := j) (by omega)
   rw [findF_at hn] at hfj
   refine cnd 2 ?_ ?_
   ·intro hco3
    refine go 2 ?_
    intro _ M
    refine go 1 ?_
    rw [if_neg (by simp [hco3])] at hfj
    rw [hfj]; exact ⟨_, rfl, SgK.own (L' := []) OwL.nil (by decide) (by simp), M.frm⟩
   ·intro hco3
    rw [if_pos hco3] at hfj
    have hac := atR_cases l (joinS ((splitN p).take (j + 1)))
    refine go 0 ?_
    refine W.regD (by kernel_rfl) #[0, 0, 0, 4, 14, 30, 63, 127] [(0, false), (1, false), (2, false), (3, false), (4, false), (5, true), (6, true), (7, false)] (by kernel_rfl) ?_
    intro K wD1 hK hwD1
    have M := M.drew hwD1
    refine go 1 ?_
    refine x_add _ rfl rfl rfl rfl rfl (wadd (by omega) (by omega)) ?_
    refine x_slh (j + 1) rfl rfl rfl Try.underlying57 sz9 rfl rfl (by omega) (by omega) ?_
    refine x_call rfl rfl rfl rfl rfl en73 (rtext_c (strsO_at (strsO_take hs1 (j := j + 1) (by omega)) M (fun y hy => by simp [hy])) (by simp; omega) (fun y hy => by have := allOK_len hPK.2.1 y (List.mem_of_mem_take hy); omega)) ?_
    rintro r_ w2 ⟨rfl, hn2⟩
    have M := M.new hn2
    refine pnd ?_
    refine x_call rfl rfl rfl rfl rfl en70 (at_c (h.new M.frm) (by omega)) ?_
    rintro r wcall3 ⟨rfl, hncall3⟩
    have M := M.new hncall3
    refine pnd ?_
    refine cnd 1 ?_ ?_
    ·intro hco4
     refine go 2 ?_
     intro _ M
     refine go 1 ?_
     have hno : ∀ y ∈ l, y.1 ≠ joinS ((splitN p).take (j + 1)) := by
      rcases hac with ⟨i, x, _, _, h3, _⟩ | ⟨h1, _⟩
      ·omega
      ·exact h1
     rw [at_find0 hno] at hfj
     rw [hfj]; exact ⟨_, rfl, SgK.own (L' := []) OwL.nil (by decide) (by simp), M.frm⟩
    ·intro hco4
     obtain ⟨i, x, hx, hxp, hat, hno⟩ := hac.resolve_right (fun h => by have := h.2; omega)
     rw [at_find hx hxp hno] at hfj
     obtain ⟨b2, o2, rfl, _⟩ := h.blk (j := i) (by have := (List.getElem?_eq_some_iff.1 hx).1; omega)
     obtain ⟨px, cx, hbx, hrow0⟩ := hF.get hx M0 (fun y hy => by simp [hy])
     have hrow := RowAt.new hrow0 M.frm
     have hil := (List.getElem?_eq_some_iff.1 hx).1
     refine go 1 ?_
     refine x_ia i rfl rfl rfl Try.underlying31 sz88 rfl rfl hat (by omega) ?_
     refine x_ldA [_, _, _] rfl rfl rfl Try.underlying88 rfl sz88 rfl rfl hrow ?_
     refine go 1 ?_
     intro _ M
     refine go 0 ?_
     refine x_add _ rfl rfl rfl rfl rfl (wadd (by omega) (by omega)) ?_
     refine go 0 ?_
     exact At.back ((j + 1, x, .slice px x.2.2.length cx)) ⟨rfl, rfl, rfl, rfl, rfl, trivial⟩ ⟨by omega, hfj, hbx, M⟩ (by first | omega | (simp only; omega) | (simp; done) | (simp; omega))
  ·intro hco2
   refine go 2 ?_
   intro _ M
   refine go 1 ?_
   obtain rfl : j = (splitN p).length := by omega
   rw [List.drop_length] at hfj
   have hfj : findL l p = (f, 0) := hfj
   rw [hfj]; exact ⟨_, rfl, hb, M.frm⟩

-- (valise/valiseref19.FS).data
theorem rdata_c {w00 w0 : World} {L X : List (Nat × Obj)} {u hv : Value} {l : List Raw} {p : List UInt8} (M0 : Sep w00 (L ++ X) w0) (hF : FilesK w00 L u l) (hl : l.length ≤ 1000) : Ret Try.prog 79 #[.agg #[u, hv], strV p] w0 fun r w' => SgK w00 L r 1 (findL l p).1.2.2.length (byteCs (findL l p).1.2.2) ∧ New w0 w' := by
 have M : Sep w0 [] w0 := St.nil w0
 refine Ret.of_W Try.func79 rfl Try.ntmps79 rfl ?_
 refine go 1 ?_
 intro bbx1 _ M
 refine go 1 ?_
 refine x_call rfl rfl rfl rfl rfl en55 (rfindK_c (w00 := w00) (L := L) (X := X ++ [(bbx1, .cells [u, hv].toArray 36 (0, 0))]) (by have h1 := (St.grow (M0) M); rw [List.append_assoc] at h1; exact h1) hF hl) ?_
 rintro r_ w1 ⟨dv, rfl, hb1, hn1⟩
 obtain ⟨pd, cd, rfl⟩ := (hb1 _ _ M0 (fun y hy => by simp [hy])).shape
 have M := M.new hn1
 refine ⟨trivial, ?_⟩
 refine go 1 ?_
 intro _ _ M
 refine go 1 ?_
 intro _ M
 refine go 2 ?_
 exact ⟨hb1, M.frm⟩

end Go.Proofs.Ytebfjdolgchgaaa

namespace Go.Proofs.Ytebfjdolgchgaaa
open Go Go.Fw Go.RowKit Go.Proofs
set_option linter.unusedVariables false
set_option linter.unusedSimpArgs false
set_option maxRecDepth 100000
set_option maxHeartbeats 4000000

-- (valise/valiseref16.Tree).Without
theorem without_c {w00 w0 : World} {L X : List (Nat × Obj)} {v : Value} {l : List Raw} {j : Nat} (M : Sep w00 (L ++ X) w0) (h : FilesK w00 L v l) (hl : l.length ≤ 1000) (hj : j < l.length) : Ret Try.prog 78 #[.agg #[v], .int .i64 ((j : Nat) : Int)] w0 fun r w' => ∃ u L', r = .agg #[u] ∧ FilesK w00 (L ++ L') u (l.eraseIdx j) ∧ Sep w00 ((L ++ L') ++ X) w' := by
 have hFK := h
 obtain ⟨fs, hfm, hfs, hfd⟩ := h
 have hfl : fs.length = l.length := by rw [← hfm]; simp
 rw [hfl] at hfs
 obtain ⟨pv, cv, rfl⟩ := (hfs _ _ M (fun y hy => by simp [hy])).shape
 have hcap := Sg.capLe (hfs _ _ M (fun y hy => by simp [hy]))
 have hone : ∀ f ∈ fs, f.2.oneCell' = true := fun f hf => (hfd f hf).2
 refine Ret.of_W Try.func78 rfl Try.ntmps78 rfl ?_
 refine go 1 ?_
 intro _ _ M
 refine go 1 ?_
 intro _ _ M
 refine go 0 ?_
 refine W.regD (by kernel_rfl) #[0, 0, 2, 0, 14, 31, 0, 64, 0, 256, 960, 2047, 4095, 8191] [(1, false), (2, false), (3, false), (4, false), (6, false), (7, false), (8, false), (9, false), (10, false), (0, true), (5, true), (11, true), (12, false), (13, true)] (by kernel_rfl) ?_
 intro K wD1 hK hwD1
 have M := M.drew hwD1
 refine go 1 ?_
 refine x_slh j rfl rfl rfl Try.underlying31 sz88 rfl rfl rfl (by omega) ?_
 refine go 1 ?_
 refine x_add _ rfl rfl rfl rfl rfl (wadd (by omega) (by omega)) ?_
 refine x_sll (j + 1) rfl rfl rfl Try.underlying31 sz88 rfl rfl (by omega) (by omega) ?_
 refine x_bs0 rfl rfl rfl Try.underlying31 sz88 ?_
 intro bb wb hbb hwb
 have M := M.acons hbb hwb
 refine pnd ?_
 refine x_apL (L := [_]) (cs := []) (nn := 0) rfl rfl rfl rfl Try.underlying31 sz88 ze88 rfl by88 rfl rfl (.inr ⟨bb, 0, [], _, rfl, rfl, rfl, rfl⟩) M (by simp) ((Sg.take (hfs _ _ M (fun y hy => by simp [hy])) (j := j) (by omega)).src Try.underlying31 (fun u hu => fCs_one hone u (List.mem_of_mem_take hu))) (by omega) (by decide) (by omega) ?_
 intro Lo v6 wv6 how M
 rw [Nat.zero_add, List.nil_append] at how
 have M := M.perm List.perm_append_comm
 rw [fCs_take (by omega)] at how
 have ho1 : ∀ f ∈ fs.take j, f.2.oneCell' = true := fun f hf => hone f (List.mem_of_mem_take hf)
 obtain ⟨p6, c6, rfl⟩ := how.shape
 refine pnd ?_
 refine x_apL rfl rfl rfl rfl Try.underlying31 sz88 ze88 rfl by88 rfl rfl how (M.perm List.perm_append_comm) (fCs_one ho1) ((Sg.drop (hfs _ _ M (fun y hy => by simp [hy])) (j := j + 1) (by omega)).src Try.underlying31 (fun u hu => fCs_one hone u (List.mem_of_mem_drop hu))) (by omega) (by decide) (by omega) ?_
 intro Lo v7 wv7 how M
 have M := M.perm List.perm_append_comm
 obtain ⟨p7, c7, rfl⟩ := how.shape
 refine pnd ?_
 refine go 1 ?_
 refine x_st [_] _ rfl rfl rfl sz33 rfl rfl rfl rfl atM rfl rfl rfl ?_
 intro wst1 hwst1
 have M := by first | exact M.put 0 rfl hwst1 | exact M.put 1 rfl hwst1 | exact M.put 2 rfl hwst1 | exact M.put 3 rfl hwst1 | exact M.put 4 rfl hwst1 | exact M.put 5 rfl hwst1 | exact M.put 6 rfl hwst1 | exact M.put 7 rfl hwst1
 refine pnd ?_
 refine go 1 ?_
 refine ⟨_, Lo, rfl, ?_, ?_⟩
 ·rw [List.eraseIdx_eq_take_drop_succ]
  refine ⟨fs.take j ++ fs.drop (j + 1), by rw [List.map_append, List.map_take, List.map_drop, hfm], ?_, ?_⟩
  ·have e1 : (fs.take j ++ fs.drop (j + 1)).length = j + (l.length - (j + 1)) := by simp; omega
   have e2 : fCs (fs.take j ++ fs.drop (j + 1)) = fCs (fs.take j) ++ (fCs fs).drop ((j + 1) * 3) := by rw [fCs_drop (by omega), fCs_app]
   rw [e1, e2]
   exact SgK.own how (by decide) (fun y hy => List.mem_append_right _ hy)
  ·intro f hf
   rcases List.mem_append.1 hf with hf | hf
   ·exact ⟨(hfd f (List.mem_of_mem_take hf)).1.mono (fun y hy => List.mem_append_left _ hy), hone f (List.mem_of_mem_take hf)⟩
   ·exact ⟨(hfd f (List.mem_of_mem_drop hf)).1.mono (fun y hy => List.mem_append_left _ hy), hone f (List.mem_of_mem_drop hf)⟩
 ·have M2 : Sep w00 ((L ++ X) ++ Lo) _ := St.tail (St.tail M)
  exact M2.perm (by rw [List.append_assoc, List.append_assoc]; exact List.Perm.append_left _ List.perm_append_comm)

-- (valise/valiseref16.Tree).Find
theorem rfind_c {w0 : World} {v : Value} {l : List Raw} {p : List UInt8} (h : FilesAt w0 v l) (hl : l.length ≤ 1000) : Ret Try.prog 55 #[.agg #[v], strV p] w0 fun r w' => ∃ dv, r = .tuple #[.agg #[strV (findL l p).1.1, .bool (findL l p).1.2.1, dv], .int .i64 (findL l p).2] ∧ BytesAt w0 dv (findL l p).1.2.2 ∧ New w0 w' := by
 have M : Sep w0 [] w0 := St.nil w0
 obtain ⟨pv, cv, rfl⟩ := h.shape
 refine Ret.of_W Try.func55 rfl Try.ntmps55 rfl ?_
 refine go 1 ?_
 intro bbx1 _ M
 refine go 1 ?_
 intro bal1 _ M
 refine go 0 ?_
 refine x_call rfl rfl rfl rfl rfl en69 (rsplit_c) ?_
 rintro r_ w1 ⟨v1, L1, rfl, M1, hs1⟩
 have M := M.grow M1
 obtain ⟨p1, c1, rfl, hcap1⟩ := hs1.shape2 (by decide)
 have hsl := splitN_len p
 refine ⟨trivial, ?_⟩
 refine cnd 1 ?_ ?_
 ·intro hco1
  refine go 2 ?_
  intro _ M
  refine go 1 ?_
  have hF : findL l p = (fileZ, 8) := by unfold findL; rw [if_neg hco1]
  rw [hF]; exact ⟨_, rfl, .inr (.inl ⟨rfl, rfl, rfl⟩), M.frm⟩
 ·intro hco1
  have hF : findL l p = findF l [] (splitN p) ([], true, []) := by unfold findL; rw [if_pos hco1]
  have hPK := POK_split hco1
  refine go 2 ?_
  intro bal2 _ M
  refine go 1 ?_
  intro _ M
  refine go 0 ?_
  refine W.loop (σ := Nat × Raw × Value) (fun q => [(2, _), (4, _), (6, _), (8, _), (9, .int .i64 ((q.1 : Nat) : Int))]) (fun q w => q.1 ≤ (splitN p).length ∧ findL l p = findF l ((splitN p).take q.1) ((splitN p).drop q.1) q.2.1 ∧ BytesAt w0 q.2.2 q.2.1.2.2 ∧ Sep w0 ([(bal2, .cells [strV q.2.1.1, .bool q.2.1.2.1, q.2.2].toArray 88 (0, 0)), (bal1, .cells [.string ByteArray.empty, .bool false, .slice none 0 0].toArray 88 (0, 0)), (bbx1, .cells [.slice pv l.length cv].toArray 33 (0, 0))] ++ L1) w) (fun q => (splitN p).length - q.1) (0, ([], true, []), .slice none 0 0) ⟨rfl, rfl, rfl, rfl, rfl, trivial⟩ ⟨Nat.zero_le _, hF, .inr (.inl ⟨rfl, rfl, rfl⟩), M⟩ ?_
  rintro ⟨j, f, dv⟩ w ⟨hj, hfj, hb, M⟩
  simp only at hj hfj hb M
  obtain ⟨pd, cd, rfl⟩ := hb.shape
  refine cnd 2 ?_ ?_
  ·intro hco2
   obtain ⟨n, hn⟩ := get_lt (l := splitN p) (q := j) (by omega)
   rw [findF_at hn] at hfj
   refine cnd 2 ?_ ?_
   ·intro hco3
    refine go 2 ?_
    intro _ M
    refine go 1 ?_
    rw [if_neg (by simp [hco3])] at hfj
    rw [hfj]; exact ⟨_, rfl, .inr (.inl ⟨rfl, rfl, rfl⟩), M.frm⟩
   ·intro hco3
    rw [if_pos hco3] at hfj
    have hac := atR_cases l (joinS ((splitN p).take (j + 1)))
    refine go 0 ?_
    refine W.regD (by kernel_rfl) #[0, 0, 0, 4, 14, 30, 63, 127] [(0, false), (1, false), (2, false), (3, false), (4, false), (5, true), (6, true), (7, false)] (by kernel_rfl) ?_
    intro K wD1 hK hwD1
    have M := M.drew hwD1
    refine go 1 ?_
    refine x_add _ rfl rfl rfl rfl rfl (wadd (by omega) (by omega)) ?_
    refine x_slh (j + 1) rfl rfl rfl Try.underlying57 sz9 rfl rfl (by omega) (by omega) ?_
    refine x_call rfl rfl rfl rfl rfl en73 (rtext_c (strsO_at (strsO_take hs1 (j := j + 1) (by omega)) M (fun y hy => by simp [hy])) (by simp; omega) (fun y hy => by have := allOK_len hPK.2.1 y (List.mem_of_mem_take hy); omega)) ?_
    rintro r_ w2 ⟨rfl, hn2⟩
    have M := M.new hn2
    refine pnd ?_
    refine x_call rfl rfl rfl rfl rfl en70 (at_c (h.new M.frm) (by omega)) ?_
    rintro r wcall3 ⟨rfl, hncall3⟩
    have M := M.new hncall3
    refine pnd ?_
    refine cnd 1 ?_ ?_
    ·intro hco4
     refine go 2 ?_
     intro _ M
     refine go 1 ?_
     have hno : ∀ y ∈ l, y.1 ≠ joinS ((splitN p).take (j + 1)) := by
      rcases hac with ⟨i, x, _, _, h3, _⟩ | ⟨h1, _⟩
      ·omega
      ·exact h1
     rw [at_find0 hno] at hfj
     rw [hfj]; exact ⟨_, rfl, .inr (.inl ⟨rfl, rfl, rfl⟩), M.frm⟩
    ·intro hco4
     obtain ⟨i, x, hx, hxp, hat, hno⟩ := hac.resolve_right (fun h => by have := h.2; omega)
     rw [at_find hx hxp hno] at hfj
     obtain ⟨b2, o2, rfl, _⟩ := h.blk (j := i) (by have := (List.getElem?_eq_some_iff.1 hx).1; omega)
     obtain ⟨px, cx, hrow0, hbx⟩ := h.row hx
     have hrow := RowAt.new hrow0 M.frm
     have hil := (List.getElem?_eq_some_iff.1 hx).1
     refine go 1 ?_
     refine x_ia i rfl rfl rfl Try.underlying31 sz88 rfl rfl hat (by omega) ?_
     refine x_ldA [_, _, _] rfl rfl rfl Try.underlying88 rfl sz88 rfl rfl hrow ?_
     refine go 1 ?_
     intro _ M
     refine go 0 ?_
     refine x_add _ rfl rfl rfl rfl rfl (wadd (by omega) (by omega)) ?_
     refine go 0 ?_
     exact At.back ((j + 1, x, .slice px x.2.2.length cx)) ⟨rfl, rfl, rfl, rfl, rfl, trivial⟩ ⟨by omega, hfj, hbx, M⟩ (by first | omega | (simp only; omega) | (simp; done) | (simp; omega))
  ·intro hco2
   refine go 2 ?_
   intro _ M
   refine go 1 ?_
   obtain rfl : j = (splitN p).length := by omega
   rw [List.drop_length] at hfj
   have hfj : findL l p = (f, 0) := hfj
   rw [hfj]; exact ⟨_, rfl, hb, M.frm⟩

end Go.Proofs.Ytebfjdolgchgaaa

namespace Go.Proofs.Ytebfjdolgchgaaa
open Go Go.Fw Go.RowKit Go.Proofs
set_option linter.unusedVariables false
set_option linter.unusedSimpArgs false
set_option maxRecDepth 100000
set_option maxHeartbeats 4000000

-- (valise/valiseref16.Tree).List
theorem rlist_c16 {w0 : World} {v : Value} {l : List Raw} {p : List UInt8} (h : FilesAt w0 v l) (hl : l.length ≤ 1000) : Ret Try.prog 63 #[.agg #[v], strV p] w0 fun r w' => ∃ u Lr, r = .tuple #[u, .int .i64 (listL l p).2] ∧ StrsO Lr u (listL l p).1 ∧ Sep w0 Lr w' := by
 have M : Sep w0 [] w0 := St.nil w0
 obtain ⟨pv, cv, rfl⟩ := h.shape
 refine Ret.of_W Try.func63 rfl Try.ntmps63 rfl ?_
 refine go 1 ?_
 intro bbx1 _ M
 refine go 1 ?_
 refine x_call rfl rfl rfl rfl rfl en55 (rfind_c (h.new M.frm) (by omega)) ?_
 rintro r_ wcall1 ⟨dv, rfl, hb, hncall1⟩
 have M := M.new hncall1
 obtain ⟨pd, cd, rfl⟩ := hb.shape
 refine ⟨trivial, ?_⟩
 refine go 1 ?_
 intro bal1 _ M
 refine go 1 ?_
 intro _ M
 refine cnd 1 ?_ ?_
 ·intro hco1
  refine go 1 ?_
  have hF : listL l p = ([], (findL l p).2) := by unfold listL; rw [if_neg hco1]
  rw [hF]; exact ⟨_, [], rfl, OwL.nil, M.frm⟩
 ·intro hco1
  refine cnd 2 ?_ ?_
  ·intro hco2
   refine go 1 ?_
   have hF : listL l p = ([], 17) := by unfold listL; rw [if_pos hco1, if_neg (by simp [hco2])]
   rw [hF]; exact ⟨_, [], rfl, OwL.nil, M.frm⟩
  ·intro hco2
   refine go 0 ?_
   refine W.loop (σ := Nat × Value × List (Nat × Obj)) (fun q => [(1, _), (2, _), (8, q.2.1), (9, .int .i64 ((q.1 : Nat) : Int))]) (fun q w => q.1 ≤ l.length ∧ StrsO q.2.2 q.2.1 (namesL (l.take q.1) p) ∧ Sep w0 ([(bal1, .cells [strV (findL l p).1.1, .bool (findL l p).1.2.1, .slice pd (findL l p).1.2.2.length cd].toArray 88 (0, 0)), (bbx1, .cells [.slice pv l.length cv].toArray 33 (0, 0))] ++ q.2.2) w) (fun q => l.length - q.1) (0, .slice none 0 0, []) ⟨rfl, rfl, rfl, rfl, trivial⟩ ⟨Nat.zero_le _, OwL.nil, M⟩ ?_
   rintro ⟨j, ov, Lo⟩ w ⟨hj, how, M⟩
   simp only at hj how M
   refine cnd 3 ?_ ?_
   ·intro hco3
    obtain ⟨x, hx⟩ := get_lt (l := l) (q := j) (by omega)
    obtain ⟨bb, off, rfl, _⟩ := (h.new M.frm).blk (j := j) (by omega)
    obtain ⟨px, cx, hrow, _⟩ := (h.new M.frm).row hx
    have hnl := namesL_len (l.take j) p
    rw [List.length_take] at hnl
    refine go 1 ?_
    refine x_ia j rfl rfl rfl Try.underlying31 sz88 rfl rfl rfl (by omega) ?_
    refine go 0 ?_
    refine x_ld rfl rfl rfl Try.underlying9 rfl rfl (RowAt.cell hrow (j := 0) rfl) ?_
    refine x_call rfl rfl rfl rfl rfl en84 (rparent_c) ?_
    rintro r wcall2 ⟨rfl, hncall2⟩
    have M := M.new hncall2
    refine ⟨trivial, ?_⟩
    refine cnd 1 ?_ ?_
    ·intro hco4
     refine go 0 ?_
     refine x_bs1 (cs := [strV (parentP x.1).2.1]) rfl rfl rfl Try.underlying57 sz9 ze9 (Z := [_]) rfl rfl (by decide) (by decide) rfl rfl rfl ?_
     intro bbs1 wbs1 hbbs1 hwbs1
     have M0 := M.acons hbbs1 hwbs1
     have hslbs1 : Sl wbs1 (.slice (some ⟨bbs1, 0, none⟩) 1 1) 1 1 [strV (parentP x.1).2.1] := .inr ⟨bbs1, 0, 1, _, _, _, rfl, by omega, M0.at_ 0 rfl, rfl, rfl⟩
     have M := M0.tail
     refine ⟨trivial, ?_⟩
     refine x_apL rfl rfl rfl rfl Try.underlying57 sz9 ze9 rfl by9 rfl rfl how (M.perm List.perm_append_comm) (strCs_one _) (hslbs1.src Try.underlying57 (by intro u hu; simp at hu; subst hu; rfl)) (by omega) (by decide) (by omega) ?_
     intro Lo v6 w6 how M
     have M := M.perm List.perm_append_comm
     have how := strsO_snoc how
     refine ⟨trivial, ?_⟩
     refine go 0 ?_
     refine x_add _ rfl rfl rfl rfl rfl (wadd (by omega) (by omega)) ?_
     refine go 0 ?_
     exact At.back ((j + 1, v6, Lo)) ⟨rfl, rfl, rfl, rfl, trivial⟩ ⟨by omega, by rw [namesL_step hx, if_pos hco4]; exact how, M⟩ (by first | omega | (simp only; omega) | (simp; done) | (simp; omega))
    ·intro hco4
     refine go 0 ?_
     refine x_add _ rfl rfl rfl rfl rfl (wadd (by omega) (by omega)) ?_
     refine go 0 ?_
     exact At.back ((j + 1, ov, Lo)) ⟨rfl, rfl, rfl, rfl, trivial⟩ ⟨by omega, by rw [namesL_step hx, if_neg hco4, List.append_nil]; exact how, M⟩ (by first | omega | (simp only; omega) | (simp; done) | (simp; omega))
   ·intro hco3
    refine go 1 ?_
    have hj2 : j = l.length := by omega
    subst hj2
    rw [List.take_length] at how
    have hF : listL l p = (namesL l p, 0) := by unfold listL; rw [if_pos hco1, if_pos hco2]
    rw [hF]; exact ⟨_, Lo, rfl, how, M.dropL (L' := [_, _])⟩

end Go.Proofs.Ytebfjdolgchgaaa

namespace Go.Proofs.Ytebfjdolgchgaaa
open Go Go.Fw Go.RowKit Go.Proofs
set_option linter.unusedVariables false
set_option linter.unusedSimpArgs false
set_option maxRecDepth 100000
set_option maxHeartbeats 4000000

-- (valise/valiseref16.Tree).Remove
theorem rremove_c {w00 w0 : World} {L X : List (Nat × Obj)} {v : Value} {l : List Raw} {p : List UInt8} (M : Sep w00 (L ++ X) w0) (h : FilesK w00 L v l) (hl : l.length ≤ 1000) : Ret Try.prog 82 #[.agg #[v], strV p] w0 fun r w' => ∃ u L', r = .tuple #[.agg #[u], .int .i64 (removeL l p).2] ∧ FilesK w00 (L ++ L') u (removeL l p).1 ∧ Sep w00 ((L ++ L') ++ X) w' := by
 have hFK := h
 obtain ⟨pv, cv, rfl⟩ := (h.at_ M (fun y hy => by simp [hy])).shape
 refine Ret.of_W Try.func82 rfl Try.ntmps82 rfl ?_
 refine go 1 ?_
 intro bbx1 _ M
 refine go 1 ?_
 intro bal1 _ M
 refine go 1 ?_
 refine x_call rfl rfl rfl rfl rfl en55 (rfind_c (hFK.at_ M (fun y hy => by simp [hy])) (by omega)) ?_
 rintro r_ w1 ⟨dv, rfl, hb, hn1⟩
 have M := M.new hn1
 obtain ⟨pd, cd, rfl⟩ := hb.shape
 refine ⟨trivial, ?_⟩
 refine go 1 ?_
 intro bal2 _ M
 refine go 1 ?_
 intro _ M
 refine cnd 1 ?_ ?_
 ·intro hco1
  refine go 2 ?_
  intro _ M
  refine go 1 ?_
  have hR : removeL l p = (l, (findL l p).2) := by unfold removeL; rw [if_neg hco1]
  rw [hR]; exact ⟨_, [], rfl, hFK.mono (fun y hy => by simp [hy]), by simpa using (St.dropL (L' := [_, _, _]) M : Sep w00 (L ++ X) _)⟩
 ·intro hco1
  refine cnd 1 ?_ ?_
  ·intro hco2
   refine go 2 ?_
   intro _ M
   refine go 1 ?_
   have hR : removeL l p = (l, 18) := by unfold removeL; rw [if_pos hco1, if_pos hco2]
   rw [hR]; exact ⟨_, [], rfl, hFK.mono (fun y hy => by simp [hy]), by simpa using (St.dropL (L' := [_, _, _]) M : Sep w00 (L ++ X) _)⟩
  ·intro hco2
   refine go 0 ?_
   refine W.loop (σ := Nat) (fun j => [(1, _), (2, _), (4, _), (8, .int .i64 ((j : Nat) : Int))]) (fun j w => j ≤ l.length ∧ (∀ y ∈ l.take j, y.1 ≠ p → underP y.1 p = false) ∧ Sep w00 ([(bal2, .cells [strV (findL l p).1.1, .bool (findL l p).1.2.1, .slice pd (findL l p).1.2.2.length cd].toArray 88 (0, 0)), (bal1, .cells [.slice none 0 0].toArray 33 (0, 0)), (bbx1, .cells [.slice pv l.length cv].toArray 33 (0, 0))] ++ (L ++ X)) w) (fun j => l.length - j) 0 ⟨rfl, rfl, rfl, rfl, trivial⟩ ⟨Nat.zero_le _, by simp, M⟩ ?_
   rintro j w ⟨hj, hno, M⟩
   refine cnd 3 ?_ ?_
   ·intro hco3
    obtain ⟨x, hx⟩ := get_lt (l := l) (q := j) (by omega)
    have hfa := hFK.at_ M (fun y hy => by simp [hy])
    obtain ⟨bb, off, rfl, _⟩ := hfa.blk (j := j) (by omega)
    obtain ⟨px, cx, hrow, _⟩ := hfa.row hx
    refine go 1 ?_
    refine x_ia j rfl rfl rfl Try.underlying31 sz88 rfl rfl rfl (by omega) ?_
    refine go 0 ?_
    refine x_ld rfl rfl rfl Try.underlying9 rfl rfl (RowAt.cell hrow (j := 0) rfl) ?_
    refine spl 1 37 ?_ ?_
    ·intro hsp1
     refine go 1 ?_
     refine x_ia j rfl rfl rfl Try.underlying31 sz88 rfl rfl rfl (by omega) ?_
     refine go 0 ?_
     refine x_ld rfl rfl rfl Try.underlying9 rfl rfl (RowAt.cell hrow (j := 0) rfl) ?_
     refine go 0 ?_
     refine x_call rfl rfl rfl rfl rfl en72 (runder_c) ?_
     rintro r wcall2 ⟨rfl, hncall2⟩
     have M := M.new hncall2
     refine ⟨trivial, ?_⟩
     refine cnd 0 ?_ ?_
     ·intro hco4
      refine go 2 ?_
      intro _ M
      refine go 1 ?_
      have hR : removeL l p = (l, 18) := by
       have hb : busyL l p = true := by
        unfold busyL; rw [List.any_eq_true]
        exact ⟨x, List.mem_of_getElem? hx, by simp [hsp1, hco4]⟩
       unfold removeL; rw [if_pos hco1, if_neg hco2, if_pos hb]
      rw [hR]; exact ⟨_, [], rfl, hFK.mono (fun y hy => by simp [hy]), by simpa using (St.dropL (L' := [_, _, _]) M : Sep w00 (L ++ X) _)⟩
     ·intro hco4
      refine go 0 ?_
      refine x_add _ rfl rfl rfl rfl rfl (wadd (by omega) (by omega)) ?_
      refine go 0 ?_
      exact At.back (j + 1) ⟨rfl, rfl, rfl, rfl, trivial⟩ ⟨by omega, fun z hz h0 => by
       rw [take_mem hx] at hz
       rcases List.mem_append.1 hz with hz | hz
       ·exact hno z hz h0
       ·rw [List.mem_singleton.1 hz]; exact hco4, M⟩ (by first | omega | (simp only; omega) | (simp; done) | (simp; omega))
    ·intro hsp1
     refine go 0 ?_
     refine x_add _ rfl rfl rfl rfl rfl (wadd (by omega) (by omega)) ?_
     refine go 0 ?_
     exact At.back (j + 1) ⟨rfl, rfl, rfl, rfl, trivial⟩ ⟨by omega, fun z hz h0 => by
      rw [take_mem hx] at hz
      rcases List.mem_append.1 hz with hz | hz
      ·exact hno z hz h0
      ·rw [List.mem_singleton.1 hz] at h0; exact absurd hsp1 h0, M⟩ (by first | omega | (simp only; omega) | (simp; done) | (simp; omega))
   ·intro hco3
    have hj2 : j = l.length := by omega
    subst hj2
    rw [List.take_length] at hno
    have hb : busyL l p = false := by
     unfold busyL
     rw [List.any_eq_false]
     intro y hy
     by_cases h0 : y.1 = p
     ·simp [h0]
     ·simp [hno y hy h0]
    obtain ⟨x, hxm, hxp⟩ := findL_mem hco1 hco2
    obtain ⟨i, y, hy, _, hat, _⟩ := (atR_cases l p).resolve_right (fun h => h.1 x hxm hxp)
    have hil := (List.getElem?_eq_some_iff.1 hy).1
    have hR : removeL l p = (l.eraseIdx i, 0) := by unfold removeL; rw [if_pos hco1, if_neg hco2, hb, if_neg (by simp), hat]; rfl
    rw [hR]
    refine go 0 ?_
    refine W.regD (by kernel_rfl) #[0, 0, 0, 6, 15, 31, 63] [(0, false), (1, false), (2, false), (3, true), (4, true), (5, true), (6, false)] (by kernel_rfl) ?_
    intro K wD1 hK hwD1
    have M := M.drew hwD1
    refine go 2 ?_
    refine x_call rfl rfl rfl rfl rfl en70 (at_c (hFK.at_ M (fun y hy => by simp [hy])) (by omega)) ?_
    rintro r_ w3 ⟨rfl, hn3⟩
    have M := M.new hn3
    rw [hat]
    refine pnd ?_
    refine x_call rfl rfl rfl rfl rfl en78 (without_c (St.inn2 (F := [_, _, _]) M) hFK hl hil) ?_
    rintro r_ w4 ⟨u, L', rfl, hu, M⟩
    have M := M.out2 [_, _, _]
    obtain ⟨pu, cu, rfl⟩ := (hu.at_ M (fun y hy => by rcases List.mem_append.1 hy with hy | hy <;> simp [hy])).shape
    refine pnd ?_
    refine x_st [_] _ rfl rfl rfl sz33 rfl rfl rfl rfl atM rfl rfl rfl ?_
    intro wst5 hwst5
    have M := by first | exact M.put 0 rfl hwst5 | exact M.put 1 rfl hwst5 | exact M.put 2 rfl hwst5 | exact M.put 3 rfl hwst5 | exact M.put 4 rfl hwst5 | exact M.put 5 rfl hwst5 | exact M.put 6 rfl hwst5 | exact M.put 7 rfl hwst5
    refine pnd ?_
    refine go 1 ?_
    exact ⟨_, L', rfl, hu, St.dropL (L' := [_, _, _]) M⟩

end Go.Proofs.Ytebfjdolgchgaaa
