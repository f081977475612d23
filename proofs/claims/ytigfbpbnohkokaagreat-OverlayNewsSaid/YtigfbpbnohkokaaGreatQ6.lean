/-
  Texts that belong together, laid into one file: U11, U12, O9, O10, U13, O11, O12, U14, O13, U15, O14, V19, V27, U16, O15.
-/
import Derived.Test.YtigfbpbnohkokaaGreatQ5
namespace Go.Proofs.YtigfbpbnohkokaaGreat
open Go Go.Fw Go.RowKit
set_option linter.unusedVariables false
set_option linter.unusedSimpArgs false

theorem mvN_fst (x y : List UInt8) (f : Raw) : (mvN x y f).1 = movP x y f.1 := by unfold mvN movP; split <;> rfl
theorem mvN_eq (x y : List UInt8) (f : Raw) : mvN x y f = (movP x y f.1, f.2) := Prod.ext (mvN_fst x y f) (mvN_snd x y f)
theorem rename_mov {l : List Raw} {x y : List UInt8} (h0 : (renameL l x y).2 = 0) (hne : x ≠ y) : x ≠ [] ∧ (renameL l x y).1 = movL x y l := by
 unfold renameL at h0 ⊢
 split
 ·rename_i h1
  rw [if_pos h1] at h0
  split
  ·rename_i h2; rw [if_pos h2] at h0; cases h0
  ·rename_i h2
   rw [if_neg h2] at h0
   refine ⟨h2, ?_⟩
   split
   ·rename_i h3
    rw [if_pos h3, if_neg hne] at h0
    try rw [if_neg hne]
    split
    ·rename_i h4; rw [if_pos h4] at h0; cases h0
    ·rename_i h4
     rw [if_neg h4] at h0
     split
     ·rename_i h5; rw [if_pos h5] at h0; cases h0
     ·rename_i h5
      rw [if_neg h5] at h0
      split
      ·rename_i h6; rw [if_pos h6] at h0; cases h0
      ·rfl
   ·rename_i h3; rw [if_neg h3] at h0; exact absurd h0 h3
 ·rename_i h1; rw [if_neg h1] at h0; exact absurd h0 h1
def movC (x y : List UInt8) (c : Con) : Con := { c with k := movP x y c.k }
def movHd (x y : List UInt8) (h : Hd) : Hd := if h.1 ≠ [] ∧ underP h.1 x = true then (y ++ h.1.drop x.length, h.2) else h
theorem cblks_mov (x y : List UInt8) (C : List Con) : cblks (C.map (movC x y)) = cblks C := by
 unfold cblks
 rw [List.flatMap_map]; rfl
/-- What was moved over. -/
def MovM (C : List Con) (x y : List UInt8) (vis : List (List UInt8)) (g : List UInt8 → Option Value) : Prop := ∀ q v, g q = some v ↔ ∃ k ∈ vis, ∃ c, cget C k = some c ∧ movP x y k = q ∧ v = ptr c.b
section
variable {base : BaseF} {S : FSt} {l : List Raw} {hf : HF} {c : Con} {x y k : List UInt8} {E' : List Ent} {om' : Obj} {vis : List (List UInt8)} {g : List UInt8 → Option Value}
theorem MovM.nil (C : List Con) (x y : List UInt8) : MovM C x y [] (fun _ => none) := fun q v => ⟨fun h => (by cases h), fun ⟨k, hk, _⟩ => (by cases hk)⟩
theorem MovM.step {C : List Con} (h : MovM C x y vis g) (hinj : ∀ k' ∈ vis, ∀ c', cget C k' = some c' → movP x y k' = movP x y k → k' = k) (hk : k ∉ vis) (hc : cget C k = some c) : MovM C x y (k :: vis) (setF g (movP x y k) (some (ptr c.b))) := by
 intro q v
 unfold setF
 by_cases e : q = movP x y k
 ·rw [if_pos e]
  constructor
  ·intro hv
   exact ⟨k, by simp, c, hc, e.symm, (Option.some.inj hv).symm⟩
  ·rintro ⟨k', hk', c', h1, h2, h3⟩
   rcases List.mem_cons.1 hk' with rfl | hk'
   ·rw [hc] at h1; cases h1; rw [h3]
   ·exact absurd (hinj k' hk' c' h1 (h2.trans e) ▸ hk') hk
 ·rw [if_neg e, h]
  constructor
  ·rintro ⟨k', hk', r⟩
   exact ⟨k', List.mem_cons_of_mem _ hk', r⟩
  ·rintro ⟨k', hk', c', h1, h2, h3⟩
   rcases List.mem_cons.1 hk' with rfl | hk'
   ·exact absurd h2.symm e
   ·exact ⟨k', hk', c', h1, h2, h3⟩
/-- Names that are moved stay apart. -/
theorem FR.mvinj (h : FR base S l hf) (h0 : (renameL l x y).2 = 0) (hne : x ≠ y) {f f' : Raw} (hf : f ∈ l) (hf' : f' ∈ l) (e : movP x y f.1 = movP x y f'.1) : f.1 = f'.1 := by
 have hb0 : (renameL (bareL l) x y).2 = 0 := by rw [bare_rename]; exact h0
 obtain ⟨m, _⟩ := mv_ok h.tr hb0 hne
 have h1 := (mv_back h.tr m (f := bareR f) (List.mem_map.2 ⟨f, hf, rfl⟩)).1
 have h2 := (mv_back h.tr m (f := bareR f') (List.mem_map.2 ⟨f', hf', rfl⟩)).1
 have h1 := congrArg (·.1) h1
 have h2 := congrArg (·.1) h2
 simp only [mvN_fst] at h1 h2
 have e1 : (bareR f).1 = f.1 := rfl
 have e2 : (bareR f').1 = f'.1 := rfl
 rw [e1] at h1
 rw [e2] at h2
 rw [← h1, e, h2]
theorem FR.movM (h : FR base S l hf) (h0 : (renameL l x y).2 = 0) (hne : x ≠ y) (hM : MovM S.C x y vis g) (hall : ∀ k, cmap S.C k ≠ none → k ∈ vis) : g = cmap (S.C.map (movC x y)) := by
 have hnd : ((S.C.map (movC x y)).map (·.k)).Nodup := by
  rw [List.map_map]
  have : ∀ {C : List Con}, (∀ c ∈ C, c ∈ S.C) → (C.map (·.k)).Nodup → (C.map ((·.k) ∘ movC x y)).Nodup := by
   intro C
   induction C with
   | nil => intro _ _; simp
   | cons c C ih =>
    intro hs hn
    simp only [List.map_cons, List.nodup_cons] at hn ⊢
    refine ⟨fun hm => ?_, ih (fun c hc => hs c (List.mem_cons_of_mem _ hc)) hn.2⟩
    obtain ⟨c', hc', e⟩ := List.mem_map.1 hm
    have e : movP x y c'.k = movP x y c.k := e
    have := h.mvinj h0 hne (h.row (hs c' (List.mem_cons_of_mem _ hc'))) (h.row (hs c List.mem_cons_self)) e
    exact hn.1 (List.mem_map.2 ⟨c', hc', this⟩)
  exact this (fun c hc => hc) h.cn
 funext q
 have key : ∀ v, g q = some v ↔ cmap (S.C.map (movC x y)) q = some v := by
  intro v
  rw [hM]
  constructor
  ·rintro ⟨k, hk, c, h1, rfl, rfl⟩
   obtain ⟨hc, rfl⟩ := cget_mem h1
   have := cget_of hnd (List.mem_map.2 ⟨c, hc, rfl⟩)
   unfold cmap
   rw [show (movC x y c).k = movP x y c.k from rfl] at this
   rw [this]; rfl
  ·intro hv
   unfold cmap at hv
   cases hg : cget (S.C.map (movC x y)) q with
   | none => rw [hg] at hv; cases hv
   | some c' =>
    rw [hg] at hv
    obtain ⟨hc', hk'⟩ := cget_mem hg
    obtain ⟨c, hc, rfl⟩ := List.mem_map.1 hc'
    have hcg := cget_of h.cn hc
    exact ⟨c.k, hall _ (by unfold cmap; rw [hcg]; simp), c, hcg, hk', (Option.some.inj hv).symm⟩
 cases hgq : g q with
 | none =>
  cases hcq : cmap (S.C.map (movC x y)) q with
  | none => rfl
  | some v => rw [(key v).2 hcq] at hgq; cases hgq
 | some v => exact ((key v).1 hgq).symm
theorem movP_ne (hx : x ≠ []) (hy : y ≠ []) (hk : k ≠ []) : movP x y k ≠ [] := by
 unfold movP
 split
 ·intro e; exact hy (List.append_eq_nil_iff.1 e).1
 ·exact hk
theorem movHd_eq {h : Hd} (h0 : h.1 ≠ []) : movHd x y h = (movP x y h.1, h.2) := by
 unfold movHd movP
 by_cases e : underP h.1 x = true
 ·rw [if_pos ⟨h0, e⟩, if_pos e]
 ·rw [if_neg (fun h => e h.2), if_neg e]
theorem movHd_nil {h : Hd} (h0 : h.1 = []) : movHd x y h = h := by unfold movHd; rw [if_neg (fun h => h.1 h0)]
/-- All is moved. -/
theorem FR.rename {bm : Nat} (h : FR base S l hf) (h0 : (renameL l x y).2 = 0) (hne : x ≠ y) (hy : y ≠ []) (ht : TR E' (bareL (renameL l x y).1)) (hm : MapF strV om' g) (hM : MovM S.C x y vis g) (hall : ∀ k, cmap S.C k ≠ none → k ∈ vis) :
  FR base { S with E := E', bm := bm, om := om', C := S.C.map (movC x y), hs := S.hs.map (movHd x y) } (renameL l x y).1 (movH hf x y) ∧ usedL (renameL l x y).1 = usedL l := by
 obtain ⟨hx, hl'⟩ := rename_mov h0 hne
 have hg := h.movM h0 hne hM hall
 have hn' : ((renameL l x y).1.map (·.1)).Nodup := by have := srt_names ht.rel.srt; rwa [bare_names'] at this
 rw [hl'] at ht hn' ⊢
 have hinj : ∀ {f f' : Raw}, f ∈ l → f' ∈ l → movP x y f.1 = movP x y f'.1 → f = f' := fun hf hf' e => names_inj h.names hf hf' (h.mvinj h0 hne hf hf' e)
 have hus : usedL (movL x y l) = usedL l := by
  have hp : (movL x y l).Perm (l.map (mvN x y)) := by
   have hnd1 : (movL x y l).Nodup := by
    have := hn'
    exact (List.Pairwise.of_map (fun x : Raw => x.1) (fun a b hab e => hab (by rw [e])) this)
   have hnd2 : (l.map (mvN x y)).Nodup := by
    have hnl : l.Nodup := List.Pairwise.of_map (fun x : Raw => x.1) (fun a b hab e => hab (by rw [e])) h.names
    have : ∀ {m : List Raw}, (∀ z ∈ m, z ∈ l) → m.Nodup → (m.map (mvN x y)).Nodup := by
     intro m
     induction m with
     | nil => intro _ _; simp
     | cons z m ih =>
      intro hs hn
      simp only [List.map_cons, List.nodup_cons] at hn ⊢
      refine ⟨fun hm => ?_, ih (fun z hz => hs z (List.mem_cons_of_mem _ hz)) hn.2⟩
      obtain ⟨w, hw, e⟩ := List.mem_map.1 hm
      have := hinj (hs w (List.mem_cons_of_mem _ hw)) (hs z List.mem_cons_self) (by have := congrArg (·.1) e; simpa only [mvN_fst] using this)
      exact hn.1 (this ▸ hw)
    exact this (fun z hz => hz) hnl
   exact (List.perm_ext_iff_of_nodup hnd1 hnd2).2 fun z => by
    rw [mv_mem, List.mem_map]
    exact ⟨fun ⟨f, h1, h2⟩ => ⟨f, h1, h2.symm⟩, fun ⟨f, h1, h2⟩ => ⟨f, h1, h2.symm⟩⟩
  rw [usedL_perm hp]
  unfold usedL
  rw [List.map_map]
  congr 1
  apply List.map_congr_left
  intro z _
  show (mvN x y z).2.2.length = _
  rw [mvN_snd]
 have hmem : ∀ q d, (q, false, d) ∈ movL x y l ↔ ∃ p, (p, false, d) ∈ l ∧ movP x y p = q := by
  intro q d
  rw [mv_mem]
  constructor
  ·rintro ⟨f, hf, e⟩
   rw [mvN_eq] at e
   obtain ⟨a, b⟩ := f
   simp only [Prod.mk.injEq] at e
   obtain ⟨rfl, rfl⟩ := e
   exact ⟨a, hf, rfl⟩
  ·rintro ⟨p, hp, rfl⟩
   exact ⟨_, hp, by rw [mvN_eq]⟩
 refine ⟨⟨ht, ?_, ?_, ?_, ?_, ?_, by rw [hus]; exact h.us, by simpa using h.hl, ?_, ?_⟩, hus⟩
 ·show MapF strV om' (cmap (S.C.map (movC x y)))
  rw [← hg]; exact hm
 ·show ((S.C.map (movC x y)).map (·.k)).Nodup
  rw [List.map_map]
  have : ∀ {C : List Con}, (∀ c ∈ C, c ∈ S.C) → (C.map (·.k)).Nodup → (C.map ((·.k) ∘ movC x y)).Nodup := by
   intro C
   induction C with
   | nil => intro _ _; simp
   | cons c C ih =>
    intro hs hn
    simp only [List.map_cons, List.nodup_cons] at hn ⊢
    refine ⟨fun hm => ?_, ih (fun c hc => hs c (List.mem_cons_of_mem _ hc)) hn.2⟩
    obtain ⟨c', hc', e⟩ := List.mem_map.1 hm
    have e : movP x y c'.k = movP x y c.k := e
    have := h.mvinj h0 hne (h.row (hs c' (List.mem_cons_of_mem _ hc'))) (h.row (hs c List.mem_cons_self)) e
    exact hn.1 (List.mem_map.2 ⟨c', hc', this⟩)
  exact this (fun c hc => hc) h.cn
 ·intro c hc
  obtain ⟨c0, hc0, rfl⟩ := List.mem_map.1 hc
  have := h.ok c0 hc0
  exact ⟨this.le, this.own, this.bas⟩
 ·intro q d
  rw [hmem]
  constructor
  ·rintro ⟨p, hp, rfl⟩
   obtain ⟨c, hc, rfl, rfl⟩ := (h.cl p d).1 hp
   exact ⟨movC x y c, List.mem_map.2 ⟨c, hc, rfl⟩, rfl, rfl⟩
  ·rintro ⟨c', hc', rfl, rfl⟩
   obtain ⟨c, hc, rfl⟩ := List.mem_map.1 hc'
   exact ⟨c.k, h.row hc, rfl⟩
 ·intro z hz hd
  obtain ⟨f, hf, rfl⟩ := mv_mem.1 hz
  rw [mvN_snd] at hd ⊢
  exact h.dd f hf hd
 ·rw [h.hh]
  funext who n
  show (hAt S.hs who n).map (fun v => (movP x y v.1, v.2)) = hAt (S.hs.map (movHd x y)) who n
  unfold hAt
  by_cases e : 0 ≤ who ∧ who < 8 ∧ 1 ≤ n ∧ n ≤ 16
  ·rw [if_pos e, if_pos e, List.getElem?_map]
   cases S.hs[16 * who.toNat + (n - 1).toNat]? with
   | none => rfl
   | some v =>
    simp only [Option.map_some]
    by_cases e2 : v.1 = []
    ·rw [if_pos e2, movHd_nil e2, if_pos e2]; rfl
    ·rw [if_neg e2, movHd_eq e2, if_neg (movP_ne hx hy e2)]; rfl
  ·rw [if_neg e, if_neg e]; rfl
 ·intro v hv hv0
  obtain ⟨u, hu, rfl⟩ := List.mem_map.1 hv
  by_cases e2 : u.1 = []
  ·rw [movHd_nil e2] at hv0; exact absurd e2 hv0
  ·rw [movHd_eq e2]
   obtain ⟨d, hd⟩ := h.ho u hu e2
   exact ⟨d, (hmem _ _).2 ⟨u.1, hd, rfl⟩⟩
end
end Go.Proofs.YtigfbpbnohkokaaGreat

namespace Go.Proofs.YtigfbpbnohkokaaGreat
open Go Go.Fw Go.RowKit
set_option linter.unusedVariables false
set_option linter.unusedSimpArgs false

def leftC (C : List Con) (vis : List (List UInt8)) : Nat := (C.filter fun c => decide (c.k ∉ vis)).length
theorem leftC_lt {C : List Con} {c : Con} {vis : List (List UInt8)} (hc : c ∈ C) (hv : c.k ∉ vis) : leftC C (c.k :: vis) < leftC C vis := by
 unfold leftC
 have h1 : ∀ C : List Con, (C.filter fun c' => decide (c'.k ∉ c.k :: vis)).length ≤ (C.filter fun c' => decide (c'.k ∉ vis)).length := by
  intro C
  induction C with
  | nil => simp
  | cons d C ih =>
   rw [List.filter_cons, List.filter_cons]
   by_cases e : d.k ∉ c.k :: vis
   ·have e2 : d.k ∉ vis := fun h => e (List.mem_cons_of_mem _ h)
    rw [if_pos (by simpa using e), if_pos (by simpa using e2)]
    simp only [List.length_cons]; omega
   ·rw [if_neg (by simpa using e)]
    split
    ·simp only [List.length_cons]; omega
    ·exact ih
 induction C with
 | nil => cases hc
 | cons d C ih =>
  rw [List.filter_cons, List.filter_cons]
  rcases List.mem_cons.1 hc with rfl | hc'
  ·rw [if_neg (by simp), if_pos (by simpa using hv)]
   have := h1 C
   simp only [List.length_cons]; omega
  ·have ih := ih hc'
   by_cases e : d.k ∉ c.k :: vis
   ·have e2 : d.k ∉ vis := fun h => e (List.mem_cons_of_mem _ h)
    rw [if_pos (by simpa using e), if_pos (by simpa using e2)]
    simp only [List.length_cons]; omega
   ·rw [if_neg (by simpa using e)]
    split
    ·simp only [List.length_cons]; omega
    ·exact ih
theorem nxt_split {κ : Type} [DecidableEq κ] {enc : κ → Value} {o ito : Obj} {r it : Nat} {g : κ → Option Value} {vis : List κ} {vs : Array Value} {w w1 : World}
  (h : ((∀ k, g k ≠ none → k ∈ vis) ∧ vs = #[.bool false] ∧ w1 = w) ∨ (∃ k v w0 ito', g k = some v ∧ k ∉ vis ∧ (w0 = w ∨ w0 = w.drew) ∧ ItO enc o ito' r g (k :: vis) ∧ LastO o ito' r (enc k) v ∧ vs = #[.bool true, enc k, v] ∧ w1 = w0.putObj it ito')) :
  ∃ bb ito', vs[0]? = some (.bool bb) ∧ ((w1 = w ∧ ito' = ito) ∨ ∃ w0, (w0 = w ∨ w0 = w.drew) ∧ w1 = w0.putObj it ito') ∧ (bb = false → ∀ k, g k ≠ none → k ∈ vis) ∧ (bb = true → ∃ k v, g k = some v ∧ k ∉ vis ∧ ItO enc o ito' r g (k :: vis) ∧ LastO o ito' r (enc k) v) := by
 rcases h with ⟨h1, rfl, rfl⟩ | ⟨k, v, w0, ito', h1, h2, h3, h4, h5, rfl, rfl⟩
 ·exact ⟨false, ito, rfl, .inl ⟨rfl, rfl⟩, fun _ => h1, fun h => by cases h⟩
 ·exact ⟨true, ito', rfl, .inr ⟨w0, h3, rfl⟩, (fun h => by cases h), fun _ => ⟨k, v, h1, h2, h4, h5⟩⟩
def movHs (hs : List Hd) (x y : List UInt8) (n : Nat) : List Hd := (hs.take n).map (movHd x y) ++ hs.drop n
section
variable {hs : List Hd} {x y : List UInt8} {n : Nat} {h : Hd}
theorem movHs_len : (movHs hs x y n).length = hs.length := by unfold movHs; simp; omega
theorem movHs_zero : movHs hs x y 0 = hs := by simp [movHs]
theorem movHs_all (h : hs.length ≤ n) : movHs hs x y n = hs.map (movHd x y) := by
 unfold movHs
 rw [List.take_of_length_le h, List.drop_of_length_le h, List.append_nil]
theorem movHs_get (hq : hs[n]? = some h) : (movHs hs x y n)[n]? = some h := by
 have hn : n < hs.length := (List.getElem?_eq_some_iff.1 hq).1
 unfold movHs
 rw [List.getElem?_append_right (by simp; omega)]
 simp only [List.length_map, List.length_take, Nat.min_eq_left (Nat.le_of_lt hn), Nat.sub_self, List.getElem?_drop, Nat.add_zero]
 exact hq
theorem movHs_set (hq : hs[n]? = some h) : (movHs hs x y n).set n (movHd x y h) = movHs hs x y (n + 1) := by
 have hn : n < hs.length := (List.getElem?_eq_some_iff.1 hq).1
 rw [set_at (movHs_get hq)]
 unfold movHs
 have hl : ((hs.take n).map (movHd x y)).length = n := by simp; omega
 rw [tk_app hl, dr_app 1 hl, List.drop_drop, take_snoc hq, List.map_append]
 simp
theorem movHs_same (hq : hs[n]? = some h) (hm : movHd x y h = h) : movHs hs x y (n + 1) = movHs hs x y n := by
 rw [← movHs_set hq, hm]
 obtain ⟨hl, he⟩ := List.getElem?_eq_some_iff.1 (movHs_get (x := x) (y := y) hq)
 conv => lhs; rw [← he]
 simp
end
section
variable {S0 : Nat → Prop} {w0 w : World} {it x y : Nat × Obj} {T : List (Nat × Obj)} {bf u bm : Nat} {bv : Value} {S : FSt} {om : Obj}
theorem fs_moved (h : St S0 w0 (it :: (bm, om) :: x :: y :: (((bf, .cells (fsC bv u { S with bm := bm }).toArray 90 (0, 0)) :: (S.bm, S.om) :: (tb S.bt S.E ++ cblks S.C)) ++ T)) w) :
  St S0 w0 (x :: y :: (fsB bf bv u { S with bm := bm, om := om } ++ T)) w := by
 have h : St S0 w0 (it :: (S.bm, S.om) :: (x :: y :: (fsB bf bv u { S with bm := bm, om := om } ++ T))) w := h.perm (perm_c fun p => by
  unfold fsB
  have e : fsC bv u { S with bm := bm, om := om } = fsC bv u { S with bm := bm } := rfl
  simp only [e, List.countP_append, List.countP_cons]
  omega)
 exact h.tail.tail
theorem fs_mov {x' y' : List UInt8} : fsB bf bv u { S with C := S.C.map (movC x' y') } = fsB bf bv u S := by
 unfold fsB
 simp only [cblks_mov]
 rfl
end
theorem under_self {x q : List UInt8} (h : underP q x = true) : ∃ t, q = x ++ t := by
 obtain ⟨h1, h2, c, hc⟩ := under_facts h
 rw [namesP_splitN h1, namesP_splitN h2] at hc
 have e1 := joinS_splitN h1
 have e2 := joinS_splitN h2
 by_cases h0 : splitN x = []
 ·have : x = [] := (sN_nil h2).1 h0
  exact ⟨q, by rw [this]; rfl⟩
 ·rw [hc, joinS_cat h0, e2] at e1
  exact ⟨_, e1.symm⟩
theorem movP_self (x q : List UInt8) : movP x x q = q := by
 unfold movP
 split
 ·rename_i h
  obtain ⟨t, rfl⟩ := under_self h
  simp
 ·rfl
theorem movH_self (hf : HF) (x : List UInt8) : movH hf x x = hf := by
 funext a b
 unfold movH
 cases hf a b with
 | none => rfl
 | some v => simp [movP_self]
end Go.Proofs.YtigfbpbnohkokaaGreat

namespace Go.Proofs.YtigfbpbnohkokaaGreat
open Go Go.Fw Go.RowKit Go.Proofs
set_option linter.unusedVariables false
set_option linter.unusedSimpArgs false

set_option maxRecDepth 100000 in
theorem renameH_c {w00 w0 : World} {bf : Nat} {bv dv : Value} {S : FSt} {base : BaseF} {Lb L : List (Nat × Obj)} {l : List Raw} {hf : HF} {o : OpS} {p : List UInt8} (M : Sep w00 (fsB bf bv (usedL l) S ++ (Lb ++ L)) w0) (hR : FR base S l hf)  (hdv : ∃ pd cd, dv = .slice pd o.d.length cd) : Ret Tryz.prog 74 #[ptr bf, strV p, .agg (opC o dv).toArray] w0 (PostS base bf bv w00 Lb L (renameS l hf p o.q)) := by
 obtain ⟨pd, cd, rfl⟩ := hdv
 refine Ret.of_W Tryz.func74 rfl Tryz.ntmps74 rfl ?_
 refine W.seq ?_
 refine W.sub [(0, _), (1, _), (2, _)] ⟨rfl, rfl, rfl, trivial⟩ ?_
 refine W.reg [(0, true), (1, true)] (by kernel_rfl) ?_
 intro K hK
 refine x_box [_, _, _, _, _, _, _, _, _] rfl rfl rfl rfl rfl ?_
 intro bbx1 wbx1 hbbx1 hwbx1
 have M := M.acons hbbx1 hwbx1
 refine ⟨trivial, ?_⟩
 refine x_alloc [_, _, _, _, _] rfl rfl rfl ze49 rfl ?_
 intro bal1 wal1 hbal1 hwal1
 have M := M.acons hbal1 hwal1
 refine ⟨trivial, ?_⟩
 refine Ex.done (hK _ _ ?_)
 refine At.then_n ?_
 refine W.seq ?_
 refine W.sub [(0, _), (1, _), (5, _), (6, _)] ⟨rfl, rfl, rfl, rfl, trivial⟩ ?_
 refine W.reg [(0, false), (1, false), (2, true), (3, false), (4, false), (5, false), (6, false), (7, false)] (by kernel_rfl) ?_
 intro K hK
 refine x_fa rfl rfl rfl fo52_2 rfl ?_
 refine x_ld rfl rfl rfl Tryz.underlying9 rfl rfl (cell_of (M.at_ 1 rfl) rfl) ?_
 refine x_call rfl rfl rfl rfl rfl en45 (clean_c) ?_
 rintro r wcall1 ⟨rfl, hncall1⟩
 have M := M.new hncall1
 refine ⟨trivial, ?_⟩
 refine x_move rfl rfl rfl rfl ?_
 refine x_ext rfl rfl rfl rfl rfl ?_
 refine x_ext rfl rfl rfl rfl rfl ?_
 refine x_assign rfl rfl rfl rfl ?_
 refine x_assign rfl rfl rfl rfl ?_
 refine Ex.done (hK _ _ ?_)
 refine At.then_n ?_
 refine W.seq ?_
 refine W.seq ?_
 refine W.sub [(0, _), (1, _), (6, _), (7, _), (8, _)] ⟨rfl, rfl, rfl, rfl, rfl, trivial⟩ ?_
 refine W.reg [(0, false), (1, false)] (by kernel_rfl) ?_
 intro K hK
 refine x_move rfl rfl rfl rfl ?_
 refine x_nei _ rfl rfl rfl rfl rfl rfl ?_
 refine Ex.done (hK _ _ ?_)
 refine At.then_n ?_
 refine W.cond rfl (fun hco1 => ?_) (fun hco1 => ?_)
 ·try simp only [sA, sB, sC, sD, sE, sF, sG, sH, sI, sJ, sK, sL, sM, sN, sO] at hco1
  refine W.seq ?_
  refine W.sub [(6, _), (8, _)] ⟨rfl, rfl, trivial⟩ ?_
  refine W.reg [(0, false), (1, true), (2, true)] (by kernel_rfl) ?_
  intro K hK
  refine x_move rfl rfl rfl rfl ?_
  refine x_call rfl rfl rfl rfl rfl en40 (fail_c) ?_
  rintro r_ wcall2 ⟨rfl, hncall2⟩
  have M := M.new hncall2
  refine ⟨trivial, ?_⟩
  refine x_st [_, _, _, _, _] _ rfl rfl rfl sz49 rfl rfl rfl rfl (M.at_ 0 rfl) rfl rfl rfl ?_
  intro wst1 hwst1
  have M := M.put 0 rfl hwst1
  refine ⟨trivial, ?_⟩
  refine Ex.done (hK _ _ ?_)
  refine At.then_n ?_
  refine W.ret ?_
  refine At.then_r ?_
  refine At.ret1 (.cell 6 49) rfl ⟨⟨_, rfl, run_loadVarA (l := [_, _, _, _, _]) Tryz.underlying49 rfl sz49 ⟨_, _, _, (M.at_ 0 rfl), rfl⟩ (Nat.zero_lt_succ _)⟩, trivial⟩ ?_
  exact post_bad hR M.tail.tail (by unfold renameS; rw [if_neg hco1])
 ·try simp only [sA, sB, sC, sD, sE, sF, sG, sH, sI, sJ, sK, sL, sM, sN, sO] at hco1
  refine W.skip ?_
  refine At.then_n ?_
  refine W.seq ?_
  refine W.seq ?_
  refine W.sub [(0, _), (1, _), (6, _), (7, _)] ⟨rfl, rfl, rfl, rfl, trivial⟩ ?_
  refine W.reg [(0, false), (1, false), (2, false), (3, false), (4, false), (5, false), (6, true), (7, false)] (by kernel_rfl) ?_
  intro K hK
  refine x_move rfl rfl rfl rfl ?_
  refine x_nil rfl rfl rfl rfl rfl ?_
  refine x_fa rfl rfl rfl fo90_1 rfl ?_
  refine x_ld rfl rfl rfl Tryz.underlying83 rfl rfl (cell_of (fs_at M (fun y (hy : y ∈ fsB bf bv (usedL l) S) => by simp [hy])) rfl) ?_
  refine x_move rfl rfl rfl rfl ?_
  refine x_move rfl rfl rfl rfl ?_
  refine x_call rfl rfl rfl rfl rfl en105 (rename_r (x := p) (y := (cleanP o.q).1) (St.tri (X := [_, _]) M) hR.tr) ?_
  rintro r_ w3 ⟨E3, rfl, hT3, M⟩
  rw [bare_rename] at hT3 ⊢
  have M := St.tro (X := [_, _]) M
  refine ⟨trivial, ?_⟩
  refine x_assign rfl rfl rfl rfl ?_
  refine Ex.done (hK _ _ ?_)
  refine At.then_n ?_
  refine W.seq ?_
  refine W.sub [(0, _), (1, _), (6, _), (7, _), (9, _)] ⟨rfl, rfl, rfl, rfl, rfl, trivial⟩ ?_
  refine W.reg [(0, false), (1, false), (2, false), (3, false), (4, false), (5, false), (6, false)] (by kernel_rfl) ?_
  intro K hK
  refine x_move rfl rfl rfl rfl ?_
  refine x_nei _ rfl rfl rfl rfl rfl rfl ?_
  refine x_move rfl rfl rfl rfl ?_
  refine Ex.split 35 rfl (fun hsp1 => ?_) (fun hsp1 => ?_)
  ·
   try simp only [sA, sB, sC, sD, sE, sF, sG, sH, sI, sJ, sK, sL, sM, sN, sO] at hsp1
   refine Ex.skip_ rfl rfl rfl ?_
   refine Ex.skip_ rfl rfl rfl ?_
   refine Ex.skip_ rfl rfl rfl ?_
   refine x_pickT rfl rfl rfl rfl rfl ?_
   refine Ex.done (hK _ _ ?_)
   refine At.then_n ?_
   refine W.condT rfl ?_
   refine W.seq ?_
   refine W.sub [(6, _), (9, _)] ⟨rfl, rfl, trivial⟩ ?_
   refine W.reg [(0, false), (1, true), (2, true)] (by kernel_rfl) ?_
   intro K hK
   refine x_move rfl rfl rfl rfl ?_
   refine x_call rfl rfl rfl rfl rfl en40 (fail_c) ?_
   rintro r_ wcall4 ⟨rfl, hncall4⟩
   have M := M.new hncall4
   refine ⟨trivial, ?_⟩
   refine x_st [_, _, _, _, _] _ rfl rfl rfl sz49 rfl rfl rfl rfl (M.at_ 0 rfl) rfl rfl rfl ?_
   intro wst2 hwst2
   have M := M.put 0 rfl hwst2
   refine ⟨trivial, ?_⟩
   refine Ex.done (hK _ _ ?_)
   refine At.then_n ?_
   refine W.ret ?_
   refine At.then_r ?_
   refine At.ret1 (.cell 6 49) rfl ⟨⟨_, rfl, run_loadVarA (l := [_, _, _, _, _]) Tryz.underlying49 rfl sz49 ⟨_, _, _, (M.at_ 0 rfl), rfl⟩ (Nat.zero_lt_succ _)⟩, trivial⟩ ?_
   exact post_bad (hR.tree (by rw [renameL_bad hsp1] at hT3; exact hT3) (fun _ _ => Iff.rfl) hR.dd hR.us) M.tail.tail (by unfold renameS; rw [if_pos hco1, if_neg hsp1])
  ·
   try simp only [sA, sB, sC, sD, sE, sF, sG, sH, sI, sJ, sK, sL, sM, sN, sO] at hsp1
   refine x_move rfl rfl rfl rfl ?_
   refine x_move rfl rfl rfl rfl ?_
   refine x_eqS _ rfl rfl rfl rfl rfl rfl ?_
   refine x_pickF rfl rfl rfl rfl rfl ?_
   refine Ex.done (hK _ _ ?_)
   refine At.then_n ?_
   refine W.cond rfl (fun hco3 => ?_) (fun hco3 => ?_)
   ·try simp only [sA, sB, sC, sD, sE, sF, sG, sH, sI, sJ, sK, sL, sM, sN, sO] at hco3
    refine W.seq ?_
    refine W.sub [(6, _), (9, _)] ⟨rfl, rfl, trivial⟩ ?_
    refine W.reg [(0, false), (1, true), (2, true)] (by kernel_rfl) ?_
    intro K hK
    refine x_move rfl rfl rfl rfl ?_
    refine x_call rfl rfl rfl rfl rfl en40 (fail_c) ?_
    rintro r_ wcall5 ⟨rfl, hncall5⟩
    have M := M.new hncall5
    refine ⟨trivial, ?_⟩
    refine x_st [_, _, _, _, _] _ rfl rfl rfl sz49 rfl rfl rfl rfl (M.at_ 0 rfl) rfl rfl rfl ?_
    intro wst3 hwst3
    have M := M.put 0 rfl hwst3
    refine ⟨trivial, ?_⟩
    refine Ex.done (hK _ _ ?_)
    refine At.then_n ?_
    refine W.ret ?_
    refine At.then_r ?_
    refine At.ret1 (.cell 6 49) rfl ⟨⟨_, rfl, run_loadVarA (l := [_, _, _, _, _]) Tryz.underlying49 rfl sz49 ⟨_, _, _, (M.at_ 0 rfl), rfl⟩ (Nat.zero_lt_succ _)⟩, trivial⟩ ?_
    have hl := rename_same (l := l) (x := p) (by have := hsp1; rw [← hco3] at this; exact this)
    exact post_bad (e := (renameL l p (cleanP o.q).1).2) (hR.tree (by rw [← hco3, hl] at hT3; exact hT3) (fun _ _ => Iff.rfl) hR.dd hR.us) M.tail.tail (by unfold renameS; rw [if_pos hco1, if_pos hsp1, hsp1, ← hco3, hl, movH_self])
   ·try simp only [sA, sB, sC, sD, sE, sF, sG, sH, sI, sJ, sK, sL, sM, sN, sO] at hco3
    have hne : p ≠ (cleanP o.q).1 := hco3
    have hb0 : (renameL (bareL l) p (cleanP o.q).1).2 = 0 := by rw [bare_rename]; exact hsp1
    obtain ⟨mok, _⟩ := mv_ok hR.tr hb0 hne
    have hyl := splitE_len mok.fy.1
    have hy0 : (cleanP o.q).1 ≠ [] := fun e => mok.fy.2 (by rw [e]; rfl)
    have hkl : ∀ c ∈ S.C, c.k.length ≤ 120 := fun c hc => hR.tr.names _ (List.mem_map.2 ⟨_, hR.row hc, rfl⟩)
    refine W.skip ?_
    refine At.then_n ?_
    refine W.seq ?_
    refine W.sub [(0, _), (1, _), (6, _), (7, _)] ⟨rfl, rfl, rfl, rfl, trivial⟩ ?_
    refine W.reg [(0, true), (1, false)] (by kernel_rfl) ?_
    intro K hK
    refine x_mkmap rfl rfl rfl ?_
    intro bmm1 wmm1 hbmm1 hwmm1
    have M := M.acons hbmm1 hwmm1
    refine ⟨trivial, ?_⟩
    refine x_assign rfl rfl rfl rfl ?_
    refine Ex.done (hK _ _ ?_)
    refine At.then_n ?_
    refine W.seq ?_
    refine W.seq ?_
    refine W.sub [(0, _), (1, _), (6, _), (7, _), (10, _)] ⟨rfl, rfl, rfl, rfl, rfl, trivial⟩ ?_
    refine W.reg [(0, false), (1, false), (2, false), (3, false), (4, true)] (by kernel_rfl) ?_
    intro K hK
    refine x_move rfl rfl rfl rfl ?_
    refine x_nil rfl rfl rfl rfl rfl ?_
    refine x_fa rfl rfl rfl fo90_2 rfl ?_
    refine x_ld rfl rfl rfl Tryz.underlying84 rfl rfl (cell_of (fs_at M (fun y (hy : y ∈ fsB bf bv (usedL l) { S with E := E3 }) => by simp [hy])) rfl) ?_
    refine x_rngM (enc := strV) (g := cmap S.C) (o := S.om) (r := S.bm) rfl rfl rfl Tryz.underlying84 rfl (M.get (by simp [fsB])) hR.mp ?_
    intro bit wit ito0 hbit hwit hIt0
    have M := M.acons hbit hwit
    refine ⟨trivial, ?_⟩
    refine Ex.done (hK _ _ ?_)
    refine At.then_n ?_
    refine W.block ?_
    refine W.loop (σ := List (List UInt8) × Obj × Obj × (List UInt8 → Option Value)) (fun q => [(0, _), (1, _), (6, _), (7, _), (10, _), (47, _)]) (fun q w => ItO strV S.om q.2.1 S.bm (cmap S.C) q.1 ∧ MapF strV q.2.2.1 q.2.2.2 ∧ MovM S.C p (cleanP o.q).1 q.1 q.2.2.2 ∧ Sep w00 ((bit, q.2.1) :: (bmm1, q.2.2.1) :: (bal1, .cells [.int .i64 0, .int .i64 0, .int .i64 0, .slice none 0 0, .slice none 0 0].toArray 49 (0, 0)) :: (bbx1, .cells (opC o (.slice pd o.d.length cd)).toArray 52 (0, 0)) :: (fsB bf bv (usedL l) { S with E := E3 } ++ (Lb ++ L))) w) (fun q => leftC S.C q.1) ([], ito0, .map #[] 0, fun _ => none) ⟨rfl, rfl, rfl, rfl, rfl, rfl, trivial⟩ ⟨hIt0, MapF.made, MovM.nil _ _ _, M⟩ ?_
    rintro ⟨vis, ito, om2, g2⟩ w ⟨hIt, hm2, hMv, M⟩
    simp only at hIt hm2 hMv M
    refine W.seq ?_
    refine W.sub [(0, _), (1, _), (6, _), (7, _), (10, _), (47, _)] ⟨rfl, rfl, rfl, rfl, rfl, rfl, trivial⟩ ?_
    refine W.reg [(0, true), (1, false)] (by kernel_rfl) ?_
    intro K hK
    refine x_nxtM (enc := strV) rfl rfl rfl rfl (M.at_ 0 rfl) (M.get (by simp [fsB])) hIt ?_
    intro vs wn hvs
    obtain ⟨bb, ito2, hv0, hw2, hend, hmore⟩ := nxt_split (ito := ito) hvs
    have M : Sep w00 ((bit, ito2) :: (bmm1, om2) :: (bal1, .cells [.int .i64 0, .int .i64 0, .int .i64 0, .slice none 0 0, .slice none 0 0].toArray 49 (0, 0)) :: (bbx1, .cells (opC o (.slice pd o.d.length cd)).toArray 52 (0, 0)) :: (fsB bf bv (usedL l) { S with E := E3 } ++ (Lb ++ L))) wn := by
     rcases hw2 with ⟨rfl, rfl⟩ | ⟨w9, h9, rfl⟩
     ·exact M
     ·rcases h9 with rfl | rfl
      ·exact M.put 0 rfl rfl
      ·exact (M.drew rfl).put 0 rfl rfl
    refine ⟨trivial, ?_⟩
    refine x_ext rfl rfl rfl rfl hv0 ?_
    refine Ex.done (hK _ _ ?_)
    refine At.then_n ?_
    refine W.seq ?_
    refine W.cond rfl (fun hco4 => ?_) (fun hco4 => ?_)
    ·try simp only [sA, sB, sC, sD, sE, sF, sG, sH, sI, sJ, sK, sL, sM, sN, sO] at hco4
     obtain ⟨k, v, hgk, hnv, hIt2, hLa⟩ := hmore hco4
     obtain ⟨c, hcg, hve⟩ : ∃ c, cget S.C k = some c ∧ v = ptr c.b := by
      unfold cmap at hgk
      cases hg : cget S.C k with
      | none => rw [hg] at hgk; cases hgk
      | some c => rw [hg] at hgk; exact ⟨c, rfl, (Option.some.inj hgk).symm⟩
     subst hve
     obtain ⟨hc, hck⟩ := cget_mem hcg
     have hk120 := hkl c hc
     rw [hck] at hk120
     have hdec : leftC S.C (k :: vis) < leftC S.C vis := by rw [← hck] at hnv ⊢; exact leftC_lt hc hnv
     have hstep := hMv.step (k := k) (c := c) (fun k2 hk2 c2 hc2 e => by
      obtain ⟨g1, g2_⟩ := cget_mem hc2
      have := hR.mvinj hsp1 hne (hR.row g1) (hR.row hc) (by rw [g2_, hck]; exact e)
      rw [← g2_, ← hck]; exact this) hnv hcg
     refine W.skip ?_
     refine At.then_n ?_
     refine W.block ?_
     refine W.seq ?_
     refine W.sub [(0, _), (1, _), (6, _), (7, _), (10, _), (47, _)] ⟨rfl, rfl, rfl, rfl, rfl, rfl, trivial⟩ ?_
     refine W.reg [(0, true), (1, false), (2, false), (3, false), (4, false)] (by kernel_rfl) ?_
     intro K hK
     refine (fun (hh : _ ∧ _) => x_ent rfl rfl rfl rfl (M.at_ 0 rfl) (M.get (by simp [fsB])) hLa hh.1 hh.2) ?_
     refine ⟨trivial, ?_⟩
     refine x_ext rfl rfl rfl rfl rfl ?_
     refine x_ext rfl rfl rfl rfl rfl ?_
     refine x_assign rfl rfl rfl rfl ?_
     refine x_assign rfl rfl rfl rfl ?_
     refine Ex.done (hK _ _ ?_)
     refine At.then_n ?_
     refine W.seq ?_
     refine W.seq ?_
     refine W.sub [(0, _), (1, _), (6, _), (7, _), (10, _), (11, _), (12, _), (47, _)] ⟨rfl, rfl, rfl, rfl, rfl, rfl, rfl, rfl, trivial⟩ ?_
     refine W.reg [(0, false), (1, false), (2, true)] (by kernel_rfl) ?_
     intro K hK
     refine x_move rfl rfl rfl rfl ?_
     refine x_move rfl rfl rfl rfl ?_
     refine x_call rfl rfl rfl rfl rfl en106 (under_c) ?_
     rintro r wcall6 ⟨rfl, hncall6⟩
     have M := M.new hncall6
     refine ⟨trivial, ?_⟩
     refine Ex.done (hK _ _ ?_)
     refine At.then_n ?_
     refine W.cond rfl (fun hco5 => ?_) (fun hco5 => ?_)
     ·try simp only [sA, sB, sC, sD, sE, sF, sG, sH, sI, sJ, sK, sL, sM, sN, sO] at hco5
      have hul := under_len hco5
      have hmv : movP p (cleanP o.q).1 k = (cleanP o.q).1 ++ k.drop p.length := by unfold movP; rw [if_pos hco5]
      rw [hmv] at hstep
      refine W.sub [(0, _), (1, _), (6, _), (7, _), (10, _), (11, _), (12, _), (47, _)] ⟨rfl, rfl, rfl, rfl, rfl, rfl, rfl, rfl, trivial⟩ ?_
      refine W.reg [(0, false), (1, false), (2, false), (3, false), (4, false), (5, false), (6, false)] (by kernel_rfl) ?_
      intro K hK
      refine x_move rfl rfl rfl rfl ?_
      refine x_move rfl rfl rfl rfl ?_
      refine x_move rfl rfl rfl rfl ?_
      refine x_lenS rfl rfl rfl rfl Tryz.underlying9 rfl ?_
      refine x_sslS p.length rfl rfl rfl Tryz.underlying9 rfl rfl rfl (by omega) ?_
      refine x_catS rfl rfl rfl rfl rfl (by simp; omega) ?_
      refine x_assign rfl rfl rfl rfl ?_
      refine Ex.done (hK _ _ ?_)
      refine At.then_n ?_
      refine W.sub [(0, _), (1, _), (6, _), (7, _), (10, _), (11, _), (12, _), (47, _)] ⟨rfl, rfl, rfl, rfl, rfl, rfl, rfl, rfl, trivial⟩ ?_
      refine W.reg [(0, false), (1, false), (2, false), (3, true)] (by kernel_rfl) ?_
      intro K hK
      refine x_move rfl rfl rfl rfl ?_
      refine x_move rfl rfl rfl rfl ?_
      refine x_move rfl rfl rfl rfl ?_
      refine x_mup (enc := strV) ((cleanP o.q).1 ++ k.drop p.length) rfl rfl rfl (strKey Tryz.underlying9) Tryz.underlying84 rfl rfl rfl (M.at_ 1 rfl) hm2 ?_
      intro omu1 wmu1 hmmu1 hwmu1
      have M : Sep w00 ((bit, ito2) :: (bmm1, omu1) :: (bal1, .cells [.int .i64 0, .int .i64 0, .int .i64 0, .slice none 0 0, .slice none 0 0].toArray 49 (0, 0)) :: (bbx1, .cells (opC o (.slice pd o.d.length cd)).toArray 52 (0, 0)) :: (fsB bf bv (usedL l) { S with E := E3 } ++ (Lb ++ L))) wmu1 := M.put 1 rfl hwmu1
      refine ⟨trivial, ?_⟩
      refine Ex.done (hK _ _ ?_)
      refine At.blk_n ?_
      exact At.back ((k :: vis, ito2, omu1, setF g2 ((cleanP o.q).1 ++ k.drop p.length) (some (ptr c.b)))) ⟨rfl, rfl, rfl, rfl, rfl, rfl, trivial⟩ ⟨hIt2, hmmu1, hstep, M⟩ (by first | omega | (simp only; omega) | (simp; done) | (simp; omega))
     ·try simp only [sA, sB, sC, sD, sE, sF, sG, sH, sI, sJ, sK, sL, sM, sN, sO] at hco5
      have hmv : movP p (cleanP o.q).1 k = k := by unfold movP; rw [if_neg (by simp [hco5])]
      rw [hmv] at hstep
      refine W.skip ?_
      refine At.then_n ?_
      refine W.sub [(0, _), (1, _), (6, _), (7, _), (10, _), (11, _), (12, _), (47, _)] ⟨rfl, rfl, rfl, rfl, rfl, rfl, rfl, rfl, trivial⟩ ?_
      refine W.reg [(0, false), (1, false), (2, false), (3, true)] (by kernel_rfl) ?_
      intro K hK
      refine x_move rfl rfl rfl rfl ?_
      refine x_move rfl rfl rfl rfl ?_
      refine x_move rfl rfl rfl rfl ?_
      refine x_mup (enc := strV) k rfl rfl rfl (strKey Tryz.underlying9) Tryz.underlying84 rfl rfl rfl (M.at_ 1 rfl) hm2 ?_
      intro omu2 wmu2 hmmu2 hwmu2
      have M : Sep w00 ((bit, ito2) :: (bmm1, omu2) :: (bal1, .cells [.int .i64 0, .int .i64 0, .int .i64 0, .slice none 0 0, .slice none 0 0].toArray 49 (0, 0)) :: (bbx1, .cells (opC o (.slice pd o.d.length cd)).toArray 52 (0, 0)) :: (fsB bf bv (usedL l) { S with E := E3 } ++ (Lb ++ L))) wmu2 := M.put 1 rfl hwmu2
      refine ⟨trivial, ?_⟩
      refine Ex.done (hK _ _ ?_)
      refine At.blk_n ?_
      exact At.back ((k :: vis, ito2, omu2, setF g2 k (some (ptr c.b)))) ⟨rfl, rfl, rfl, rfl, rfl, rfl, trivial⟩ ⟨hIt2, hmmu2, hstep, M⟩ (by first | omega | (simp only; omega) | (simp; done) | (simp; omega))
    ·try simp only [sA, sB, sC, sD, sE, sF, sG, sH, sI, sJ, sK, sL, sM, sN, sO] at hco4
     have hall := hend hco4
     obtain ⟨hR4, hU4⟩ := hR.rename (bm := bmm1) hsp1 hne hy0 hT3 hm2 hMv hall
     refine W.exit ?_
     refine At.then_x ?_
     refine At.loop_x ?_
     refine At.blk_x ?_
     refine At.then_n ?_
     refine W.seq ?_
     refine W.sub [(0, _), (1, _), (6, _), (7, _), (10, _)] ⟨rfl, rfl, rfl, rfl, rfl, trivial⟩ ?_
     refine W.reg [(0, false), (1, false), (2, false), (3, false), (4, true)] (by kernel_rfl) ?_
     intro K hK
     refine x_move rfl rfl rfl rfl ?_
     refine x_move rfl rfl rfl rfl ?_
     refine x_nil rfl rfl rfl rfl rfl ?_
     refine x_fa rfl rfl rfl fo90_2 rfl ?_
     refine x_st [_] (fsC bv (usedL l) { S with E := E3, bm := bmm1 }) rfl rfl rfl sz84 rfl rfl rfl rfl (fs_at M (fun y (hy : y ∈ fsB bf bv (usedL l) { S with E := E3 }) => by simp [hy])) rfl (by rw [fsC_len (S := { S with E := E3 }) hR.hl]; rfl) (fsC_map (S := { S with E := E3 })) ?_
     intro wst4 hwst4
     have M := fs_moved (S := { S with E := E3 }) (M.put 4 rfl hwst4)
     refine ⟨trivial, ?_⟩
     refine Ex.done (hK _ _ ?_)
     refine At.then_n ?_
     refine W.seq ?_
     refine W.seq ?_
     refine W.sub [(0, _), (1, _), (6, _), (7, _)] ⟨rfl, rfl, rfl, rfl, trivial⟩ ?_
     refine W.reg [(0, false)] (by kernel_rfl) ?_
     intro K hK
     refine x_move rfl rfl rfl rfl ?_
     refine Ex.done (hK _ _ ?_)
     refine At.then_n ?_
     refine W.block ?_
     refine W.loop (σ := Nat) (fun q => [(0, _), (1, _), (6, _), (7, _), (69, .int .i64 ((q : Nat) : Int))]) (fun q w => q ≤ 8 ∧ Sep w00 ((bal1, .cells [.int .i64 0, .int .i64 0, .int .i64 0, .slice none 0 0, .slice none 0 0].toArray 49 (0, 0)) :: (bbx1, .cells (opC o (.slice pd o.d.length cd)).toArray 52 (0, 0)) :: (fsB bf bv (usedL l) { S with E := E3, bm := bmm1, om := om2, hs := movHs S.hs p (cleanP o.q).1 (16 * q) } ++ (Lb ++ L))) w) (fun q => 8 - q) 0 ⟨rfl, rfl, rfl, rfl, rfl, trivial⟩ ⟨by omega, by rw [Nat.mul_zero, movHs_zero]; exact M⟩ ?_
     rintro q w ⟨hq8, M⟩
     refine W.seq ?_
     refine W.sub [(0, _), (1, _), (6, _), (7, _), (69, _)] ⟨rfl, rfl, rfl, rfl, rfl, trivial⟩ ?_
     refine W.reg [(0, false)] (by kernel_rfl) ?_
     intro K hK
     refine x_lss _ rfl rfl rfl rfl rfl rfl ?_
     refine Ex.done (hK _ _ ?_)
     refine At.then_n ?_
     refine W.seq ?_
     refine W.cond rfl (fun hco6 => ?_) (fun hco6 => ?_)
     ·try simp only [sA, sB, sC, sD, sE, sF, sG, sH, sI, sJ, sK, sL, sM, sN, sO] at hco6
      refine W.skip ?_
      refine At.then_n ?_
      refine W.seq ?_
      refine W.block ?_
      refine W.seq ?_
      refine W.sub [(0, _), (1, _), (6, _), (7, _), (69, _)] ⟨rfl, rfl, rfl, rfl, rfl, trivial⟩ ?_
      refine W.reg [(0, false), (1, false)] (by kernel_rfl) ?_
      intro K hK
      refine x_move rfl rfl rfl rfl ?_
      refine x_assign rfl rfl rfl rfl ?_
      refine Ex.done (hK _ _ ?_)
      refine At.then_n ?_
      refine W.seq ?_
      refine W.sub [(0, _), (1, _), (6, _), (7, _), (13, _), (69, _)] ⟨rfl, rfl, rfl, rfl, rfl, rfl, trivial⟩ ?_
      refine W.reg [(0, false), (1, false), (2, true), (3, false), (4, false)] (by kernel_rfl) ?_
      intro K hK
      refine x_move rfl rfl rfl rfl ?_
      refine x_move rfl rfl rfl rfl ?_
      refine x_call rfl rfl rfl rfl rfl en49 (handles_c (by omega)) ?_
      rintro r_ w_ ⟨rfl, rfl⟩
      refine ⟨trivial, ?_⟩
      refine x_len rfl rfl rfl rfl Tryz.underlying116 rfl ?_
      refine x_move rfl rfl rfl rfl ?_
      refine Ex.done (hK _ _ ?_)
      refine At.then_n ?_
      refine W.block ?_
      refine W.loop (σ := Nat) (fun i => [(0, _), (1, _), (6, _), (7, _), (13, _), (69, _), (74, _), (75, _), (76, .int .i64 ((i : Nat) : Int))]) (fun i w => i ≤ 16 ∧ Sep w00 ((bal1, .cells [.int .i64 0, .int .i64 0, .int .i64 0, .slice none 0 0, .slice none 0 0].toArray 49 (0, 0)) :: (bbx1, .cells (opC o (.slice pd o.d.length cd)).toArray 52 (0, 0)) :: (fsB bf bv (usedL l) { S with E := E3, bm := bmm1, om := om2, hs := movHs S.hs p (cleanP o.q).1 (16 * q + i) } ++ (Lb ++ L))) w) (fun i => 16 - i) 0 ⟨rfl, rfl, rfl, rfl, rfl, rfl, rfl, rfl, rfl, trivial⟩ ⟨by omega, M⟩ ?_
      rintro i w ⟨hi16, M⟩
      refine W.seq ?_
      refine W.sub [(0, _), (1, _), (6, _), (7, _), (13, _), (69, _), (74, _), (75, _), (76, _)] ⟨rfl, rfl, rfl, rfl, rfl, rfl, rfl, rfl, rfl, trivial⟩ ?_
      refine W.reg [(0, false)] (by kernel_rfl) ?_
      intro K hK
      refine x_lss _ rfl rfl rfl rfl rfl rfl ?_
      refine Ex.done (hK _ _ ?_)
      refine At.then_n ?_
      refine W.seq ?_
      refine W.cond rfl (fun hco7 => ?_) (fun hco7 => ?_)
      ·try simp only [sA, sB, sC, sD, sE, sF, sG, sH, sI, sJ, sK, sL, sM, sN, sO] at hco7
       obtain ⟨h, hq⟩ := get_lt (l := S.hs) (q := 16 * q + i) (by rw [hR.hl]; omega)
       have hq2 := movHs_get (x := p) (y := (cleanP o.q).1) hq
       have hfs := fs_at M (fun y (hy : y ∈ fsB bf bv (usedL l) { S with E := E3, bm := bmm1, om := om2, hs := movHs S.hs p (cleanP o.q).1 (16 * q + i) }) => by simp [hy])
       have hml : (movHs S.hs p (cleanP o.q).1 (16 * q + i)).length = 128 := by rw [movHs_len, hR.hl]
       have hrow := (row_sl (S := { S with E := E3, bm := bmm1, om := om2, hs := movHs S.hs p (cleanP o.q).1 (16 * q + i) }) (off := 0 + 3 + q * 32) hml (by omega : q < 8) hfs (by omega)).row (j := i) (l := [strV h.1, .bool h.2]) rfl (flat_drop (m := 2) (e1 := fun h : Hd => [strV h.1, .bool h.2]) (by decide) (fun _ _ => rfl) (row_at (S := { S with E := E3, bm := bmm1, om := om2, hs := movHs S.hs p (cleanP o.q).1 (16 * q + i) }) hq2 (by omega))) (by simp)
       refine W.skip ?_
       refine At.then_n ?_
       refine W.seq ?_
       refine W.block ?_
       refine W.seq ?_
       refine W.sub [(0, _), (1, _), (6, _), (7, _), (13, _), (69, _), (74, _), (75, _), (76, _)] ⟨rfl, rfl, rfl, rfl, rfl, rfl, rfl, rfl, rfl, trivial⟩ ?_
       refine W.reg [(0, false), (1, false), (2, false), (3, true), (4, false), (5, true)] (by kernel_rfl) ?_
       intro K hK
       refine x_move rfl rfl rfl rfl ?_
       refine x_ia i rfl rfl rfl Tryz.underlying116 sz86 rfl rfl rfl (by omega) ?_
       refine x_ldA [_, _] rfl rfl rfl Tryz.underlying86 rfl sz86 rfl rfl hrow ?_
       refine x_alloc [_, _] rfl rfl rfl ze86 rfl ?_
       intro bal2 wal2 hbal2 hwal2
       have M := M.acons hbal2 hwal2
       refine ⟨trivial, ?_⟩
       refine x_assign rfl rfl rfl rfl ?_
       refine x_st [_, _] _ rfl rfl rfl sz86 rfl rfl rfl rfl (M.at_ 0 rfl) rfl rfl rfl ?_
       intro wst5 hwst5
       have M := M.put 0 rfl hwst5
       refine ⟨trivial, ?_⟩
       refine Ex.done (hK _ _ ?_)
       refine At.then_n ?_
       refine W.seq ?_
       refine W.sub [(0, _), (1, _), (6, _), (7, _), (13, _), (14, _), (15, _), (69, _), (74, _), (75, _), (76, _)] ⟨rfl, rfl, rfl, rfl, rfl, rfl, rfl, rfl, rfl, rfl, rfl, trivial⟩ ?_
       refine W.reg [(0, false), (1, false), (2, false), (3, false), (4, false), (5, false), (6, false), (7, true), (8, false)] (by kernel_rfl) ?_
       intro K hK
       refine x_fa rfl rfl rfl fo86_0 rfl ?_
       refine x_ld rfl rfl rfl Tryz.underlying9 rfl rfl (cell_of (M.at_ 0 rfl) rfl) ?_
       refine x_neS _ rfl rfl rfl rfl rfl rfl ?_
       refine x_move rfl rfl rfl rfl ?_
       refine Ex.split 84 rfl (fun hsp2 => ?_) (fun hsp2 => ?_)
       ·
        try simp only [sA, sB, sC, sD, sE, sF, sG, sH, sI, sJ, sK, sL, sM, sN, sO] at hsp2
        refine x_fa rfl rfl rfl fo86_0 rfl ?_
        refine x_ld rfl rfl rfl Tryz.underlying9 rfl rfl (cell_of (M.at_ 0 rfl) rfl) ?_
        refine x_move rfl rfl rfl rfl ?_
        refine x_call rfl rfl rfl rfl rfl en106 (under_c) ?_
        rintro r wcall8 ⟨rfl, hncall8⟩
        have M := M.new hncall8
        refine ⟨trivial, ?_⟩
        refine x_pickT rfl rfl rfl rfl rfl ?_
        refine Ex.done (hK _ _ ?_)
        refine At.then_n ?_
        refine W.cond rfl (fun hco8 => ?_) (fun hco8 => ?_)
        ·try simp only [sA, sB, sC, sD, sE, sF, sG, sH, sI, sJ, sK, sL, sM, sN, sO] at hco8
         have hul := under_len hco8
         have hmh : movHd p (cleanP o.q).1 h = ((cleanP o.q).1 ++ h.1.drop p.length, h.2) := by unfold movHd; rw [if_pos ⟨hsp2, hco8⟩]
         obtain ⟨dd, hdd⟩ := hR.ho h (List.mem_of_getElem? hq) hsp2
         have hhl : h.1.length ≤ 120 := hR.tr.names _ (List.mem_map.2 ⟨_, hdd, rfl⟩)
         refine W.sub [(0, _), (1, _), (6, _), (7, _), (13, _), (14, _), (15, _), (69, _), (74, _), (75, _), (76, _)] ⟨rfl, rfl, rfl, rfl, rfl, rfl, rfl, rfl, rfl, rfl, rfl, trivial⟩ ?_
         refine W.regD (by kernel_rfl) #[0, 0, 0, 0, 0, 16, 0, 64, 240, 504, 1, 1025, 3075, 8191, 16383, 32767] [(0, false), (1, false), (2, false), (3, false), (4, false), (5, false), (6, false), (7, false), (8, false), (9, false), (10, false), (11, false), (12, false), (13, false), (14, false), (15, true)] (by kernel_rfl) ?_
         intro K wD1 hK hwD1
         have M := M.drew hwD1
         refine x_move rfl rfl rfl rfl ?_
         refine x_move rfl rfl rfl rfl ?_
         refine x_move rfl rfl rfl rfl ?_
         refine x_move rfl rfl rfl rfl ?_
         refine x_fa rfl rfl rfl fo86_0 rfl ?_
         refine x_ld rfl rfl rfl Tryz.underlying9 rfl rfl (cell_of (M.at_ 0 rfl) rfl) ?_
         refine x_move rfl rfl rfl rfl ?_
         refine x_lenS rfl rfl rfl rfl Tryz.underlying9 rfl ?_
         refine x_sslS p.length rfl rfl rfl Tryz.underlying9 rfl rfl rfl (by omega) ?_
         refine x_catS rfl rfl rfl rfl rfl (by simp; omega) ?_
         refine x_nil rfl rfl rfl rfl rfl ?_
         refine x_fa rfl rfl rfl fo90_3 rfl ?_
         refine x_iaA q rfl rfl rfl Tryz.underlying88 sz87 rfl rfl rfl (by omega) ?_
         refine x_iaA i rfl rfl rfl Tryz.underlying87 sz86 rfl rfl rfl (by omega) ?_
         refine x_fa rfl rfl rfl fo86_0 rfl ?_
         refine x_st [_] (fsC bv (usedL l) { S with E := E3, bm := bmm1, om := om2, hs := movHs S.hs p (cleanP o.q).1 (16 * q + i + 1) }) rfl rfl rfl sz9 rfl rfl rfl rfl (fs_at M (fun y (hy : y ∈ fsB bf bv (usedL l) { S with E := E3, bm := bmm1, om := om2, hs := movHs S.hs p (cleanP o.q).1 (16 * q + i) }) => by simp [hy])) rfl (by rw [fsC_len (S := { S with E := E3, bm := bmm1, om := om2, hs := movHs S.hs p (cleanP o.q).1 (16 * q + i) }) hml]; exact Nat.ble_eq_true_of_le (by simp only [List.length_cons, List.length_nil]; omega)) (by rw [← movHs_set hq, hmh]; exact fsC_put1 (S := { S with E := E3, bm := bmm1, om := om2, hs := movHs S.hs p (cleanP o.q).1 (16 * q + i) }) hq2 (by omega)) ?_
         intro wst6 hwst6
         have M : Sep w00 ((bal2, _) :: ((bal1, .cells [.int .i64 0, .int .i64 0, .int .i64 0, .slice none 0 0, .slice none 0 0].toArray 49 (0, 0)) :: (bbx1, .cells (opC o (.slice pd o.d.length cd)).toArray 52 (0, 0)) :: (fsB bf bv (usedL l) { S with E := E3, bm := bmm1, om := om2, hs := movHs S.hs p (cleanP o.q).1 (16 * q + i + 1) } ++ (Lb ++ L)))) wst6 := M.put 3 rfl hwst6
         refine ⟨⟨.inl (by kernel_rfl), trivial⟩, ?_⟩
         refine Ex.done (hK _ _ ?_)
         refine At.blk_n ?_
         refine At.then_n ?_
         refine W.sub [(0, _), (1, _), (6, _), (7, _), (13, _), (69, _), (74, _), (75, _), (76, _)] ⟨rfl, rfl, rfl, rfl, rfl, rfl, rfl, rfl, rfl, trivial⟩ ?_
         refine W.reg [(0, false), (1, false)] (by kernel_rfl) ?_
         intro K hK
         refine x_add _ rfl rfl rfl rfl rfl (wadd (by omega) (by omega)) ?_
         refine x_move rfl rfl rfl rfl ?_
         refine Ex.done (hK _ _ ?_)
         exact At.back (i + 1) ⟨rfl, rfl, rfl, rfl, rfl, rfl, rfl, rfl, rfl, trivial⟩ ⟨by omega, M.tail⟩ (by first | omega | (simp only; omega) | (simp; done) | (simp; omega))
        ·try simp only [sA, sB, sC, sD, sE, sF, sG, sH, sI, sJ, sK, sL, sM, sN, sO] at hco8
         have hmh : movHd p (cleanP o.q).1 h = h := by unfold movHd; rw [if_neg (fun e => by rw [hco8] at e; cases e.2)]
         refine W.skip ?_
         refine At.blk_n ?_
         refine At.then_n ?_
         refine W.sub [(0, _), (1, _), (6, _), (7, _), (13, _), (69, _), (74, _), (75, _), (76, _)] ⟨rfl, rfl, rfl, rfl, rfl, rfl, rfl, rfl, rfl, trivial⟩ ?_
         refine W.reg [(0, false), (1, false)] (by kernel_rfl) ?_
         intro K hK
         refine x_add _ rfl rfl rfl rfl rfl (wadd (by omega) (by omega)) ?_
         refine x_move rfl rfl rfl rfl ?_
         refine Ex.done (hK _ _ ?_)
         exact At.back (i + 1) ⟨rfl, rfl, rfl, rfl, rfl, rfl, rfl, rfl, rfl, trivial⟩ ⟨by omega, by show Sep w00 _ _; rw [show 16 * q + (i + 1) = 16 * q + i + 1 from rfl, movHs_same hq hmh]; exact M.tail⟩ (by first | omega | (simp only; omega) | (simp; done) | (simp; omega))
       ·
        try simp only [sA, sB, sC, sD, sE, sF, sG, sH, sI, sJ, sK, sL, sM, sN, sO] at hsp2
        have hmh : movHd p (cleanP o.q).1 h = h := movHd_nil hsp2
        refine Ex.skip_ rfl rfl rfl ?_
        refine Ex.skip_ rfl rfl rfl ?_
        refine Ex.skip_ rfl rfl rfl ?_
        refine Ex.skipm_ rfl rfl rfl ?_
        refine x_pickF rfl rfl rfl rfl rfl ?_
        refine Ex.done (hK _ _ ?_)
        refine At.then_n ?_
        refine W.condF rfl ?_
        refine W.skip ?_
        refine At.blk_n ?_
        refine At.then_n ?_
        refine W.sub [(0, _), (1, _), (6, _), (7, _), (13, _), (69, _), (74, _), (75, _), (76, _)] ⟨rfl, rfl, rfl, rfl, rfl, rfl, rfl, rfl, rfl, trivial⟩ ?_
        refine W.reg [(0, false), (1, false)] (by kernel_rfl) ?_
        intro K hK
        refine x_add _ rfl rfl rfl rfl rfl (wadd (by omega) (by omega)) ?_
        refine x_move rfl rfl rfl rfl ?_
        refine Ex.done (hK _ _ ?_)
        exact At.back (i + 1) ⟨rfl, rfl, rfl, rfl, rfl, rfl, rfl, rfl, rfl, trivial⟩ ⟨by omega, by show Sep w00 _ _; rw [show 16 * q + (i + 1) = 16 * q + i + 1 from rfl, movHs_same hq hmh]; exact M.tail⟩ (by first | omega | (simp only; omega) | (simp; done) | (simp; omega))
      ·try simp only [sA, sB, sC, sD, sE, sF, sG, sH, sI, sJ, sK, sL, sM, sN, sO] at hco7
       have hi2 : i = 16 := by omega
       subst hi2
       refine W.exit ?_
       refine At.then_x ?_
       refine At.loop_x ?_
       refine At.blk_x ?_
       refine At.blk_n ?_
       refine At.then_n ?_
       refine W.sub [(0, _), (1, _), (6, _), (7, _), (69, _)] ⟨rfl, rfl, rfl, rfl, rfl, trivial⟩ ?_
       refine W.reg [(0, false), (1, false)] (by kernel_rfl) ?_
       intro K hK
       refine x_add _ rfl rfl rfl rfl rfl (wadd (by omega) (by omega)) ?_
       refine x_move rfl rfl rfl rfl ?_
       refine Ex.done (hK _ _ ?_)
       exact At.back (q + 1) ⟨rfl, rfl, rfl, rfl, rfl, trivial⟩ ⟨by omega, by rw [show 16 * (q + 1) = 16 * q + 16 by omega]; exact M⟩ (by first | omega | (simp only; omega) | (simp; done) | (simp; omega))
     ·try simp only [sA, sB, sC, sD, sE, sF, sG, sH, sI, sJ, sK, sL, sM, sN, sO] at hco6
      have hq2 : q = 8 := by omega
      subst hq2
      rw [movHs_all (by rw [hR.hl]; omega), ← hU4] at M
      refine W.exit ?_
      refine At.then_x ?_
      refine At.loop_x ?_
      refine At.blk_x ?_
      refine At.then_n ?_
      refine W.seq ?_
      refine W.sub [(6, _)] ⟨rfl, trivial⟩ ?_
      refine W.reg [(0, false), (1, true)] (by kernel_rfl) ?_
      intro K hK
      refine x_build [_, _, _, _, _] rfl rfl rfl pl49 ze49 rfl rfl rfl ?_
      refine x_st [_, _, _, _, _] _ rfl rfl rfl sz49 rfl rfl rfl rfl (M.at_ 0 rfl) rfl rfl rfl ?_
      intro wst7 hwst7
      have M := M.put 0 rfl hwst7
      refine ⟨trivial, ?_⟩
      refine Ex.done (hK _ _ ?_)
      refine At.then_n ?_
      refine W.ret ?_
      refine At.ret1 (.cell 6 49) rfl ⟨⟨_, rfl, run_loadVarA (l := [_, _, _, _, _]) Tryz.underlying49 rfl sz49 ⟨_, _, _, (M.at_ 0 rfl), rfl⟩ (Nat.zero_lt_succ _)⟩, trivial⟩ ?_
      have hst : renameS l hf p o.q = (badS 0, (renameL l p (cleanP o.q).1).1, movH hf p (cleanP o.q).1) := by unfold renameS; rw [if_pos hco1, if_pos hsp1]
      rw [hst]
      exact post_bad hR4 (by rw [fs_mov (S := { S with E := E3, bm := bmm1, om := om2, hs := S.hs.map (movHd p (cleanP o.q).1) })]; exact M.tail.tail) rfl
end Go.Proofs.YtigfbpbnohkokaaGreat

namespace Go.Proofs.YtigfbpbnohkokaaGreat
open Go Go.Fw Go.RowKit Go.Proofs
set_option linter.unusedVariables false
set_option linter.unusedSimpArgs false


theorem nil_byH {bf : Nat} {k : Int} : (nilF (byH bf k)).map (!·) = some (decide (2 ≤ k ∧ k ≤ 5)) := by
 unfold byH
 by_cases h2 : k = 2
 ·subst h2; rfl
 by_cases h3 : k = 3
 ·subst h3; rfl
 by_cases h4 : k = 4
 ·subst h4; rfl
 by_cases h5 : k = 5
 ·subst h5; rfl
 rw [if_neg h2, if_neg h3, if_neg h4, if_neg h5, decide_eq_false (by omega)]; rfl
theorem nil_byP {bf : Nat} {k : Int} : nilF (byP bf k) = some (decide (¬ (6 ≤ k ∧ k ≤ 9))) := by
 unfold byP
 by_cases h2 : k = 6
 ·subst h2; rfl
 by_cases h3 : k = 7
 ·subst h3; rfl
 by_cases h4 : k = 8
 ·subst h4; rfl
 by_cases h5 : k = 9
 ·subst h5; rfl
 rw [if_neg h2, if_neg h3, if_neg h4, if_neg h5, decide_eq_true (by omega)]; rfl
theorem byH_any {w00 : World} {bf a i : Nat} {bv dv : Value} {S : FSt} {base : BaseF} {Lb : List (Nat × Obj)} {l : List Raw} {hf : HF} {h : Hd} {who : Int} {o : OpS} (hR : FR base S l hf) (hB : BaseC w00 Lb bv base) (ha : a < 8) (hi : i < 16) (hq : S.hs[16 * a + i]? = some h) (h0 : h.1 ≠ []) (hwho : who = (a : Int)) (hoh : o.h = (i : Int) + 1) (hk : 2 ≤ o.k ∧ o.k ≤ 5) :
  ∃ g, byH bf o.k = .func (.func g) #[ptr bf] #[] ∧ entered Tryz.prog g = true ∧ ∀ {w0 : World} {L : List (Nat × Obj)}, Sep w00 (fsB bf bv (usedL l) S ++ (Lb ++ L)) w0 → (∀ w X, Sep w00 X w → (∀ y ∈ L, y ∈ X) → BytesAt w dv o.d) → Ret Tryz.prog g #[ptr bf, .pointer (some ⟨bf, 3 + 2 * (16 * a + i), none⟩), .agg (opC o dv).toArray] w0 (PostS base bf bv w00 Lb L (handleS l hf who o)) := by
 have hat : hf who o.h = some h := by rw [hwho, hoh]; exact hR.at_ ha hi hq h0
 unfold handleS
 rw [hat]
 simp only
 by_cases h2 : o.k = 2
 ·rw [if_pos h2, h2]
  exact ⟨_, rfl, en68, fun M hdv => read_c M hR hB ha hi hq h0 hdv⟩
 by_cases h3 : o.k = 3
 ·rw [if_neg h2, if_pos h3, h3]
  exact ⟨_, rfl, en69, fun M hdv => write_c M hR hB ha hi hq h0 hdv⟩
 by_cases h4 : o.k = 4
 ·rw [if_neg h2, if_neg h3, if_pos h4, h4]
  exact ⟨_, rfl, en70, fun M hdv => truncate_c M hR hB ha hi hq h0 hdv⟩
 have h5 : o.k = 5 := by omega
 rw [if_neg h2, if_neg h3, if_neg h4, h5]
 refine ⟨_, rfl, en71, fun M hdv => ?_⟩
 rw [hwho, hoh]
 exact shut_c M hR hB ha hi hq h0 hdv
theorem byP_any {w00 : World} {bf : Nat} {bv dv : Value} {S : FSt} {base : BaseF} {Lb : List (Nat × Obj)} {l : List Raw} {hf : HF} {p : List UInt8} {o : OpS} (hR : FR base S l hf) (hdv : ∃ pd cd, dv = .slice pd o.d.length cd) (hk : 6 ≤ o.k ∧ o.k ≤ 9) :
  ∃ g, byP bf o.k = .func (.func g) #[ptr bf] #[] ∧ entered Tryz.prog g = true ∧ ∀ {w0 : World} {L : List (Nat × Obj)}, Sep w00 (fsB bf bv (usedL l) S ++ (Lb ++ L)) w0 → Ret Tryz.prog g #[ptr bf, strV p, .agg (opC o dv).toArray] w0 (PostS base bf bv w00 Lb L (namedS l hf p o)) := by
 unfold namedS
 by_cases h2 : o.k = 6
 ·rw [if_pos h2, h2]
  exact ⟨_, rfl, en72, fun M => mkdirH_c M hR hdv⟩
 by_cases h3 : o.k = 7
 ·rw [if_neg h2, if_pos h3, h3]
  exact ⟨_, rfl, en73, fun M => removeH_c M hR hdv⟩
 by_cases h4 : o.k = 8
 ·rw [if_neg h2, if_neg h3, if_pos h4, h4]
  exact ⟨_, rfl, en74, fun M => renameH_c M hR hdv⟩
 have h5 : o.k = 9 := by omega
 rw [if_neg h2, if_neg h3, if_neg h4, h5]
 exact ⟨_, rfl, en75, fun M => listH_c M hR hdv⟩


set_option maxRecDepth 100000 in
theorem do_c {w00 w0 : World} {bf : Nat} {bv dv : Value} {S : FSt} {base : BaseF} {Lb L : List (Nat × Obj)} {l : List Raw} {hf : HF} {who : Int} {o : OpS} (M : Sep w00 (fsB bf bv (usedL l) S ++ (Lb ++ L)) w0) (hR : FR base S l hf) (hB : BaseC w00 Lb bv base) (hdv : ∀ w X, Sep w00 X w → (∀ y ∈ L, y ∈ X) → BytesAt w dv o.d) : Ret Tryz.prog 16 #[ptr bf, .int .i64 who, .agg (opC o dv).toArray] w0 (PostS base bf bv w00 Lb L (doS l hf who o)) := by
 obtain ⟨pd, cd, rfl⟩ := (hdv _ _ M (fun y hy => by simp [hy])).shape
 refine Ret.of_W Tryz.func16 rfl Tryz.ntmps16 rfl ?_
 refine W.seq ?_
 refine W.sub [(0, _), (1, _), (2, _)] ⟨rfl, rfl, rfl, trivial⟩ ?_
 refine W.reg [(0, true), (1, true)] (by kernel_rfl) ?_
 intro K hK
 refine x_box [_, _, _, _, _, _, _, _, _] rfl rfl rfl rfl rfl ?_
 intro bbx1 wbx1 hbbx1 hwbx1
 have M := M.acons hbbx1 hwbx1
 refine ⟨trivial, ?_⟩
 refine x_alloc [_, _, _, _, _] rfl rfl rfl ze49 rfl ?_
 intro bal1 wal1 hbal1 hwal1
 have M := M.acons hbal1 hwal1
 refine ⟨trivial, ?_⟩
 refine Ex.done (hK _ _ ?_)
 refine At.then_n ?_
 refine W.seq ?_
 refine W.block ?_
 refine W.seq ?_
 refine W.sub [(0, _), (1, _), (5, _), (6, _)] ⟨rfl, rfl, rfl, rfl, trivial⟩ ?_
 refine W.reg [(0, false), (1, false), (2, false), (3, false), (4, false), (5, false), (6, false), (7, false), (8, false), (9, false)] (by kernel_rfl) ?_
 intro K hK
 refine x_move rfl rfl rfl rfl ?_
 refine x_eqpn false rfl rfl rfl Tryz.underlying34 rfl rfl rfl ?_
 refine x_move rfl rfl rfl rfl ?_
 refine x_move rfl rfl rfl rfl ?_
 refine x_nil rfl rfl rfl rfl rfl ?_
 refine x_fa rfl rfl rfl fo90_1 rfl ?_
 refine x_ld rfl rfl rfl Tryz.underlying83 rfl rfl (cell_of (fs_at M (fun y (hy : y ∈ fsB bf bv (usedL l) S) => by simp [hy])) rfl) ?_
 refine x_eqpn false rfl rfl rfl Tryz.underlying83 rfl rfl rfl ?_
 refine x_pickF rfl rfl rfl rfl rfl ?_
 refine x_assign rfl rfl rfl rfl ?_
 refine Ex.done (hK _ _ ?_)
 refine At.then_n ?_
 refine W.condF rfl ?_
 refine W.seq ?_
 refine W.sub [(0, _), (1, _), (5, _), (6, _)] ⟨rfl, rfl, rfl, rfl, trivial⟩ ?_
 refine W.reg [(0, false), (1, false), (2, false), (3, false), (4, false), (5, false), (6, false)] (by kernel_rfl) ?_
 intro K hK
 refine x_move rfl rfl rfl rfl ?_
 refine x_lss _ rfl rfl rfl rfl rfl rfl ?_
 refine x_move rfl rfl rfl rfl ?_
 refine Ex.split 26 rfl (fun hsp1 => ?_) (fun hsp1 => ?_)
 ·
  try simp only [sA, sB, sC, sD, sE, sF, sG, sH, sI, sJ, sK, sL, sM, sN, sO] at hsp1
  refine Ex.skip_ rfl rfl rfl ?_
  refine Ex.skip_ rfl rfl rfl ?_
  refine x_pickT rfl rfl rfl rfl rfl ?_
  refine x_assign rfl rfl rfl rfl ?_
  refine Ex.done (hK _ _ ?_)
  refine At.then_n ?_
  refine W.condT rfl ?_
  refine W.seq ?_
  refine W.sub [(6, _)] ⟨rfl, trivial⟩ ?_
  refine W.reg [(0, true), (1, true)] (by kernel_rfl) ?_
  intro K hK
  refine x_call rfl rfl rfl rfl rfl en40 (fail_c) ?_
  rintro r_ wcall1 ⟨rfl, hncall1⟩
  have M := M.new hncall1
  refine ⟨trivial, ?_⟩
  refine x_st [_, _, _, _, _] _ rfl rfl rfl sz49 rfl rfl rfl rfl (M.at_ 0 rfl) rfl rfl rfl ?_
  intro wst1 hwst1
  have M := M.put 0 rfl hwst1
  refine ⟨trivial, ?_⟩
  refine Ex.done (hK _ _ ?_)
  refine At.then_n ?_
  refine W.ret ?_
  refine At.blk_r ?_
  refine At.then_r ?_
  refine At.ret1 (.cell 6 49) rfl ⟨⟨_, rfl, run_loadVarA (l := [_, _, _, _, _]) Tryz.underlying49 rfl sz49 ⟨_, _, _, (M.at_ 0 rfl), rfl⟩ (Nat.zero_lt_succ _)⟩, trivial⟩ ?_
  exact post_bad hR M.tail.tail (by unfold doS; rw [if_pos (.inl hsp1)])
 ·
  try simp only [sA, sB, sC, sD, sE, sF, sG, sH, sI, sJ, sK, sL, sM, sN, sO] at hsp1
  refine x_move rfl rfl rfl rfl ?_
  refine x_geq _ rfl rfl rfl rfl rfl rfl ?_
  refine x_pickF rfl rfl rfl rfl rfl ?_
  refine x_assign rfl rfl rfl rfl ?_
  refine Ex.done (hK _ _ ?_)
  refine At.then_n ?_
  refine W.cond rfl (fun hco3 => ?_) (fun hco3 => ?_)
  ·try simp only [sA, sB, sC, sD, sE, sF, sG, sH, sI, sJ, sK, sL, sM, sN, sO] at hco3
   refine W.seq ?_
   refine W.sub [(6, _)] ⟨rfl, trivial⟩ ?_
   refine W.reg [(0, true), (1, true)] (by kernel_rfl) ?_
   intro K hK
   refine x_call rfl rfl rfl rfl rfl en40 (fail_c) ?_
   rintro r_ wcall2 ⟨rfl, hncall2⟩
   have M := M.new hncall2
   refine ⟨trivial, ?_⟩
   refine x_st [_, _, _, _, _] _ rfl rfl rfl sz49 rfl rfl rfl rfl (M.at_ 0 rfl) rfl rfl rfl ?_
   intro wst2 hwst2
   have M := M.put 0 rfl hwst2
   refine ⟨trivial, ?_⟩
   refine Ex.done (hK _ _ ?_)
   refine At.then_n ?_
   refine W.ret ?_
   refine At.blk_r ?_
   refine At.then_r ?_
   refine At.ret1 (.cell 6 49) rfl ⟨⟨_, rfl, run_loadVarA (l := [_, _, _, _, _]) Tryz.underlying49 rfl sz49 ⟨_, _, _, (M.at_ 0 rfl), rfl⟩ (Nat.zero_lt_succ _)⟩, trivial⟩ ?_
   exact post_bad hR M.tail.tail (by unfold doS; rw [if_pos (.inr (.inl (by omega)))])
  ·try simp only [sA, sB, sC, sD, sE, sF, sG, sH, sI, sJ, sK, sL, sM, sN, sO] at hco3
   have hdw := fun w (X : List (Nat × Obj)) (hX : Sep w00 X w) (hs : ∀ y ∈ L, y ∈ X) => hdv w X hX hs
   refine W.seq ?_
   refine W.sub [(0, _), (1, _), (5, _), (6, _)] ⟨rfl, rfl, rfl, rfl, trivial⟩ ?_
   refine W.reg [(0, false), (1, false), (2, false), (3, false)] (by kernel_rfl) ?_
   intro K hK
   refine x_fa rfl rfl rfl fo52_0 rfl ?_
   refine x_ld rfl rfl rfl Tryz.underlying3 rfl rfl (cell_of (M.at_ 1 rfl) rfl) ?_
   refine x_eqi _ rfl rfl rfl rfl rfl rfl ?_
   refine x_assign rfl rfl rfl rfl ?_
   refine Ex.done (hK _ _ ?_)
   refine At.then_n ?_
   refine W.cond rfl (fun hco4 => ?_) (fun hco4 => ?_)
   ·try simp only [sA, sB, sC, sD, sE, sF, sG, sH, sI, sJ, sK, sL, sM, sN, sO] at hco4
    refine W.seq ?_
    refine W.sub [(0, _), (1, _), (5, _), (6, _)] ⟨rfl, rfl, rfl, rfl, trivial⟩ ?_
    refine W.reg [(0, false), (1, false), (2, false), (3, true), (4, true)] (by kernel_rfl) ?_
    intro K hK
    refine x_move rfl rfl rfl rfl ?_
    refine x_move rfl rfl rfl rfl ?_
    refine x_ldA [_, _, _, _, _, _, _, _, _] rfl rfl rfl Tryz.underlying52 rfl sz52 rfl rfl ⟨_, _, _, (M.at_ 1 rfl), rfl⟩ ?_
    refine x_call rfl rfl rfl rfl rfl en41 (by have hc_ := open_c (a := who.toNat) (o := o) (St.fsi (X := [_, _]) M) hR (by omega) ⟨pd, cd, rfl⟩; rw [Int.toNat_of_nonneg (by omega)] at hc_; exact hc_) ?_
    rintro r_ w9 ⟨S9, Lr, ⟨dv9, lv9, L1, L2, rfl, rfl, hb9, hs9⟩, hR9, M⟩
    have M := St.fso (X := [_, _]) M
    obtain ⟨p91, c91, rfl⟩ := hb9.shape
    obtain ⟨p92, c92, rfl, _⟩ := hs9.shape2 (by decide)
    refine ⟨trivial, ?_⟩
    refine x_st [_, _, _, _, _] _ rfl rfl rfl sz49 rfl rfl rfl rfl (M.at_ 0 rfl) rfl rfl rfl ?_
    intro wst3 hwst3
    have M := M.put 0 rfl hwst3
    refine ⟨trivial, ?_⟩
    refine Ex.done (hK _ _ ?_)
    refine At.then_n ?_
    refine W.ret ?_
    refine At.blk_r ?_
    refine At.then_r ?_
    refine At.ret1 (.cell 6 49) rfl ⟨⟨_, rfl, run_loadVarA (l := [_, _, _, _, _]) Tryz.underlying49 rfl sz49 ⟨_, _, _, (M.at_ 0 rfl), rfl⟩ (Nat.zero_lt_succ _)⟩, trivial⟩ ?_
    rw [show doS l hf who o = openS l hf who o by unfold doS; rw [if_neg (by omega), if_pos hco4]]
    exact ⟨S9, L1 ++ L2, ⟨_, _, L1, L2, rfl, rfl, hb9, hs9⟩, hR9, M.tail.tail⟩
   ·try simp only [sA, sB, sC, sD, sE, sF, sG, sH, sI, sJ, sK, sL, sM, sN, sO] at hco4
    refine W.skip ?_
    refine At.blk_n ?_
    refine At.then_n ?_
    refine W.seq ?_
    refine W.seq ?_
    refine W.sub [(0, _), (1, _), (5, _), (6, _)] ⟨rfl, rfl, rfl, rfl, trivial⟩ ?_
    refine W.reg [(0, false), (1, false), (2, false), (3, true), (4, false)] (by kernel_rfl) ?_
    intro K hK
    refine x_move rfl rfl rfl rfl ?_
    refine x_fa rfl rfl rfl fo52_0 rfl ?_
    refine x_ld rfl rfl rfl Tryz.underlying3 rfl rfl (cell_of (M.at_ 1 rfl) rfl) ?_
    refine x_call rfl rfl rfl rfl rfl en42 (byHandle_c) ?_
    rintro r_ w_ ⟨rfl, rfl⟩
    refine ⟨trivial, ?_⟩
    refine x_assign rfl rfl rfl rfl ?_
    refine Ex.done (hK _ _ ?_)
    refine At.then_n ?_
    refine W.seq ?_
    refine W.sub [(0, _), (1, _), (5, _), (6, _), (7, _)] ⟨rfl, rfl, rfl, rfl, rfl, trivial⟩ ?_
    refine W.reg [(0, false), (1, false)] (by kernel_rfl) ?_
    intro K hK
    refine x_move rfl rfl rfl rfl ?_
    refine x_nefn (decide (2 ≤ o.k ∧ o.k ≤ 5)) rfl rfl rfl Tryz.underlying107 rfl rfl nil_byH ?_
    refine Ex.done (hK _ _ ?_)
    refine At.then_n ?_
    refine W.cond rfl (fun hco5 => ?_) (fun hco5 => ?_)
    ·try simp only [sA, sB, sC, sD, sE, sF, sG, sH, sI, sJ, sK, sL, sM, sN, sO] at hco5
     have hk5 : 2 ≤ o.k ∧ o.k ≤ 5 := by simpa using hco5
     have hdo : doS l hf who o = handleS l hf who o := by unfold doS; rw [if_neg (by omega), if_neg (by omega), if_pos (by omega)]
     refine W.seq ?_
     refine W.sub [(0, _), (1, _), (5, _), (6, _), (7, _)] ⟨rfl, rfl, rfl, rfl, rfl, trivial⟩ ?_
     refine W.reg [(0, false), (1, false), (2, false), (3, false), (4, true), (5, false)] (by kernel_rfl) ?_
     intro K hK
     refine x_move rfl rfl rfl rfl ?_
     refine x_move rfl rfl rfl rfl ?_
     refine x_fa rfl rfl rfl fo52_3 rfl ?_
     refine x_ld rfl rfl rfl Tryz.underlying3 rfl rfl (cell_of (M.at_ 1 rfl) rfl) ?_
     refine x_call rfl rfl rfl rfl rfl en43 (handle_c (fs_at M (fun y (hy : y ∈ fsB bf bv (usedL l) S) => by simp [hy])) hR.hl) ?_
     rintro r_ w_ ⟨⟨po, rfl, hpo⟩, rfl⟩
     refine ⟨trivial, ?_⟩
     refine x_assign rfl rfl rfl rfl ?_
     refine Ex.done (hK _ _ ?_)
     refine At.then_n ?_
     refine W.seq ?_
     refine W.seq ?_
     refine W.sub [(5, _), (6, _), (7, _), (8, _)] ⟨rfl, rfl, rfl, rfl, trivial⟩ ?_
     refine W.reg [(0, false), (1, false)] (by kernel_rfl) ?_
     intro K hK
     refine x_move rfl rfl rfl rfl ?_
     refine x_eqpn _ rfl rfl rfl Tryz.underlying109 rfl rfl rfl ?_
     refine Ex.done (hK _ _ ?_)
     refine At.then_n ?_
     refine W.cond rfl (fun hco6 => ?_) (fun hco6 => ?_)
     ·try simp only [sA, sB, sC, sD, sE, sF, sG, sH, sI, sJ, sK, sL, sM, sN, sO] at hco6
      have hno : hf who o.h = none := by
       rcases hpo with ⟨h1, _⟩ | ⟨a, i, h, _, _, _, _, _, _, hpe⟩
       ·rw [hR.hh]; exact h1
       ·rw [hpe] at hco6; cases hco6
      refine W.seq ?_
      refine W.sub [(6, _)] ⟨rfl, trivial⟩ ?_
      refine W.reg [(0, true), (1, true)] (by kernel_rfl) ?_
      intro K hK
      refine x_call rfl rfl rfl rfl rfl en40 (fail_c) ?_
      rintro r_ wcall6 ⟨rfl, hncall6⟩
      have M := M.new hncall6
      refine ⟨trivial, ?_⟩
      refine x_st [_, _, _, _, _] _ rfl rfl rfl sz49 rfl rfl rfl rfl (M.at_ 0 rfl) rfl rfl rfl ?_
      intro wst4 hwst4
      have M := M.put 0 rfl hwst4
      refine ⟨trivial, ?_⟩
      refine Ex.done (hK _ _ ?_)
      refine At.then_n ?_
      refine W.ret ?_
      refine At.then_r ?_
      refine At.then_r ?_
      refine At.ret1 (.cell 6 49) rfl ⟨⟨_, rfl, run_loadVarA (l := [_, _, _, _, _]) Tryz.underlying49 rfl sz49 ⟨_, _, _, (M.at_ 0 rfl), rfl⟩ (Nat.zero_lt_succ _)⟩, trivial⟩ ?_
      rw [hdo]
      exact post_bad hR M.tail.tail (by unfold handleS; rw [hno])
     ·try simp only [sA, sB, sC, sD, sE, sF, sG, sH, sI, sJ, sK, sL, sM, sN, sO] at hco6
      obtain ⟨a, i, h, hwho, hoh, ha, hi, hq, h0, hpe⟩ : ∃ (a i : Nat) (h : Hd), who = (a : Int) ∧ o.h = (i : Int) + 1 ∧ a < 8 ∧ i < 16 ∧ S.hs[16 * a + i]? = some h ∧ h.1 ≠ [] ∧ po = some ⟨bf, 3 + 2 * (16 * a + i), none⟩ := by
       rcases hpo with ⟨_, h1⟩ | h
       ·rw [h1] at hco6; cases hco6
       ·exact h
      rw [hpe]
      obtain ⟨g, hg, heg, hgc⟩ := byH_any (bf := bf) (dv := .slice pd o.d.length cd) hR hB ha hi hq h0 hwho hoh hk5
      rw [hg, hdo]
      refine W.skip ?_
      refine At.then_n ?_
      refine W.seq ?_
      refine W.sub [(5, _), (6, _), (7, _), (8, _)] ⟨rfl, rfl, rfl, rfl, trivial⟩ ?_
      refine W.reg [(0, false), (1, false), (2, false), (3, true), (4, true)] (by kernel_rfl) ?_
      intro K hK
      refine x_move rfl rfl rfl rfl ?_
      refine x_move rfl rfl rfl rfl ?_
      refine x_ldA [_, _, _, _, _, _, _, _, _] rfl rfl rfl Tryz.underlying52 rfl sz52 rfl rfl ⟨_, _, _, (M.at_ 1 rfl), rfl⟩ ?_
      refine x_call rfl rfl rfl rfl rfl heg (hgc (St.fsi (X := [_, _]) M) (fun w X hX hs => hdv w X hX (fun y hy => hs y (List.mem_append_right _ hy)))) ?_
      rintro r_ w9 ⟨S9, Lr, ⟨dv9, lv9, L1, L2, rfl, rfl, hb9, hs9⟩, hR9, M⟩
      have M := St.fso (X := [_, _]) M
      obtain ⟨p91, c91, rfl⟩ := hb9.shape
      obtain ⟨p92, c92, rfl, _⟩ := hs9.shape2 (by decide)
      refine ⟨trivial, ?_⟩
      refine x_st [_, _, _, _, _] _ rfl rfl rfl sz49 rfl rfl rfl rfl (M.at_ 0 rfl) rfl rfl rfl ?_
      intro wst5 hwst5
      have M := M.put 0 rfl hwst5
      refine ⟨trivial, ?_⟩
      refine Ex.done (hK _ _ ?_)
      refine At.then_n ?_
      refine W.ret ?_
      refine At.then_r ?_
      refine At.ret1 (.cell 6 49) rfl ⟨⟨_, rfl, run_loadVarA (l := [_, _, _, _, _]) Tryz.underlying49 rfl sz49 ⟨_, _, _, (M.at_ 0 rfl), rfl⟩ (Nat.zero_lt_succ _)⟩, trivial⟩ ?_
      exact ⟨S9, L1 ++ L2, ⟨_, _, L1, L2, rfl, rfl, hb9, hs9⟩, hR9, M.tail.tail⟩
    ·try simp only [sA, sB, sC, sD, sE, sF, sG, sH, sI, sJ, sK, sL, sM, sN, sO] at hco5
     have hk5 : ¬ (2 ≤ o.k ∧ o.k ≤ 5) := by simpa using hco5
     refine W.skip ?_
     refine At.then_n ?_
     refine W.seq ?_
     refine W.sub [(0, _), (5, _), (6, _)] ⟨rfl, rfl, rfl, trivial⟩ ?_
     refine W.reg [(0, false), (1, false), (2, false), (3, true), (4, false)] (by kernel_rfl) ?_
     intro K hK
     refine x_move rfl rfl rfl rfl ?_
     refine x_fa rfl rfl rfl fo52_0 rfl ?_
     refine x_ld rfl rfl rfl Tryz.underlying3 rfl rfl (cell_of (M.at_ 1 rfl) rfl) ?_
     refine x_call rfl rfl rfl rfl rfl en44 (byPath_c) ?_
     rintro r_ w_ ⟨rfl, rfl⟩
     refine ⟨trivial, ?_⟩
     refine x_assign rfl rfl rfl rfl ?_
     refine Ex.done (hK _ _ ?_)
     refine At.then_n ?_
     refine W.seq ?_
     refine W.seq ?_
     refine W.sub [(5, _), (6, _), (9, _)] ⟨rfl, rfl, rfl, trivial⟩ ?_
     refine W.reg [(0, false), (1, false)] (by kernel_rfl) ?_
     intro K hK
     refine x_move rfl rfl rfl rfl ?_
     refine x_eqfn (decide (¬ (6 ≤ o.k ∧ o.k ≤ 9))) rfl rfl rfl Tryz.underlying111 rfl rfl nil_byP ?_
     refine Ex.done (hK _ _ ?_)
     refine At.then_n ?_
     refine W.cond rfl (fun hco7 => ?_) (fun hco7 => ?_)
     ·try simp only [sA, sB, sC, sD, sE, sF, sG, sH, sI, sJ, sK, sL, sM, sN, sO] at hco7
      have hk9 : ¬ (6 ≤ o.k ∧ o.k ≤ 9) := by simpa using hco7
      refine W.seq ?_
      refine W.sub [(6, _)] ⟨rfl, trivial⟩ ?_
      refine W.reg [(0, true), (1, true)] (by kernel_rfl) ?_
      intro K hK
      refine x_call rfl rfl rfl rfl rfl en40 (fail_c) ?_
      rintro r_ wcall9 ⟨rfl, hncall9⟩
      have M := M.new hncall9
      refine ⟨trivial, ?_⟩
      refine x_st [_, _, _, _, _] _ rfl rfl rfl sz49 rfl rfl rfl rfl (M.at_ 0 rfl) rfl rfl rfl ?_
      intro wst6 hwst6
      have M := M.put 0 rfl hwst6
      refine ⟨trivial, ?_⟩
      refine Ex.done (hK _ _ ?_)
      refine At.then_n ?_
      refine W.ret ?_
      refine At.then_r ?_
      refine At.ret1 (.cell 6 49) rfl ⟨⟨_, rfl, run_loadVarA (l := [_, _, _, _, _]) Tryz.underlying49 rfl sz49 ⟨_, _, _, (M.at_ 0 rfl), rfl⟩ (Nat.zero_lt_succ _)⟩, trivial⟩ ?_
      exact post_bad hR M.tail.tail (by unfold doS; rw [if_pos (by omega)])
     ·try simp only [sA, sB, sC, sD, sE, sF, sG, sH, sI, sJ, sK, sL, sM, sN, sO] at hco7
      have hk9 : 6 ≤ o.k ∧ o.k ≤ 9 := by simpa using hco7
      refine W.skip ?_
      refine At.then_n ?_
      refine W.seq ?_
      refine W.sub [(5, _), (6, _), (9, _)] ⟨rfl, rfl, rfl, trivial⟩ ?_
      refine W.reg [(0, false), (1, false), (2, true), (3, false), (4, false), (5, false), (6, false), (7, false)] (by kernel_rfl) ?_
      intro K hK
      refine x_fa rfl rfl rfl fo52_1 rfl ?_
      refine x_ld rfl rfl rfl Tryz.underlying9 rfl rfl (cell_of (M.at_ 1 rfl) rfl) ?_
      refine x_call rfl rfl rfl rfl rfl en45 (clean_c) ?_
      rintro r wcall10 ⟨rfl, hncall10⟩
      have M := M.new hncall10
      refine ⟨trivial, ?_⟩
      refine x_move rfl rfl rfl rfl ?_
      refine x_ext rfl rfl rfl rfl rfl ?_
      refine x_ext rfl rfl rfl rfl rfl ?_
      refine x_assign rfl rfl rfl rfl ?_
      refine x_assign rfl rfl rfl rfl ?_
      refine Ex.done (hK _ _ ?_)
      refine At.then_n ?_
      refine W.seq ?_
      refine W.seq ?_
      refine W.sub [(5, _), (6, _), (9, _), (10, _), (11, _)] ⟨rfl, rfl, rfl, rfl, rfl, trivial⟩ ?_
      refine W.reg [(0, false), (1, false)] (by kernel_rfl) ?_
      intro K hK
      refine x_move rfl rfl rfl rfl ?_
      refine x_nei _ rfl rfl rfl rfl rfl rfl ?_
      refine Ex.done (hK _ _ ?_)
      refine At.then_n ?_
      refine W.cond rfl (fun hco8 => ?_) (fun hco8 => ?_)
      ·try simp only [sA, sB, sC, sD, sE, sF, sG, sH, sI, sJ, sK, sL, sM, sN, sO] at hco8
       refine W.seq ?_
       refine W.sub [(6, _), (11, _)] ⟨rfl, rfl, trivial⟩ ?_
       refine W.reg [(0, false), (1, true), (2, true)] (by kernel_rfl) ?_
       intro K hK
       refine x_move rfl rfl rfl rfl ?_
       refine x_call rfl rfl rfl rfl rfl en40 (fail_c) ?_
       rintro r_ wcall11 ⟨rfl, hncall11⟩
       have M := M.new hncall11
       refine ⟨trivial, ?_⟩
       refine x_st [_, _, _, _, _] _ rfl rfl rfl sz49 rfl rfl rfl rfl (M.at_ 0 rfl) rfl rfl rfl ?_
       intro wst7 hwst7
       have M := M.put 0 rfl hwst7
       refine ⟨trivial, ?_⟩
       refine Ex.done (hK _ _ ?_)
       refine At.then_n ?_
       refine W.ret ?_
       refine At.then_r ?_
       refine At.ret1 (.cell 6 49) rfl ⟨⟨_, rfl, run_loadVarA (l := [_, _, _, _, _]) Tryz.underlying49 rfl sz49 ⟨_, _, _, (M.at_ 0 rfl), rfl⟩ (Nat.zero_lt_succ _)⟩, trivial⟩ ?_
       exact post_bad hR M.tail.tail (by unfold doS; rw [if_neg (by omega), if_neg (by omega), if_neg (by omega), if_neg hco8])
      ·try simp only [sA, sB, sC, sD, sE, sF, sG, sH, sI, sJ, sK, sL, sM, sN, sO] at hco8
       obtain ⟨g, hg, heg, hgc⟩ := byP_any (w00 := w00) (Lb := Lb) (bv := bv) (bf := bf) (p := (cleanP o.p).1) (dv := .slice pd o.d.length cd) hR ⟨pd, cd, rfl⟩ hk9
       rw [hg, show doS l hf who o = namedS l hf (cleanP o.p).1 o by unfold doS; rw [if_neg (by omega), if_neg (by omega), if_neg (by omega), if_pos hco8]]
       refine W.skip ?_
       refine At.then_n ?_
       refine W.seq ?_
       refine W.sub [(5, _), (6, _), (9, _), (10, _)] ⟨rfl, rfl, rfl, rfl, trivial⟩ ?_
       refine W.reg [(0, false), (1, false), (2, false), (3, true), (4, true)] (by kernel_rfl) ?_
       intro K hK
       refine x_move rfl rfl rfl rfl ?_
       refine x_move rfl rfl rfl rfl ?_
       refine x_ldA [_, _, _, _, _, _, _, _, _] rfl rfl rfl Tryz.underlying52 rfl sz52 rfl rfl ⟨_, _, _, (M.at_ 1 rfl), rfl⟩ ?_
       refine x_call rfl rfl rfl rfl rfl heg (hgc (St.fsi (X := [_, _]) M)) ?_
       rintro r_ w9 ⟨S9, Lr, ⟨dv9, lv9, L1, L2, rfl, rfl, hb9, hs9⟩, hR9, M⟩
       have M := St.fso (X := [_, _]) M
       obtain ⟨p91, c91, rfl⟩ := hb9.shape
       obtain ⟨p92, c92, rfl, _⟩ := hs9.shape2 (by decide)
       refine ⟨trivial, ?_⟩
       refine x_st [_, _, _, _, _] _ rfl rfl rfl sz49 rfl rfl rfl rfl (M.at_ 0 rfl) rfl rfl rfl ?_
       intro wst8 hwst8
       have M := M.put 0 rfl hwst8
       refine ⟨trivial, ?_⟩
       refine Ex.done (hK _ _ ?_)
       refine At.then_n ?_
       refine W.ret ?_
       refine At.ret1 (.cell 6 49) rfl ⟨⟨_, rfl, run_loadVarA (l := [_, _, _, _, _]) Tryz.underlying49 rfl sz49 ⟨_, _, _, (M.at_ 0 rfl), rfl⟩ (Nat.zero_lt_succ _)⟩, trivial⟩ ?_
       exact ⟨S9, L1 ++ L2, ⟨_, _, L1, L2, rfl, rfl, hb9, hs9⟩, hR9, M.tail.tail⟩
end Go.Proofs.YtigfbpbnohkokaaGreat

namespace Go.Proofs.YtigfbpbnohkokaaGreat
open Go Go.Fw Go.RowKit
set_option linter.unusedVariables false
set_option linter.unusedSimpArgs false

/-- Rows, of which one has other bytes. -/
theorem fCs_set {fs : List (Raw × Value)} {rest : List Value} {i : Nat} {f : Raw × Value} {v : Value} {d : List UInt8} (hx : fs[i]? = some f) : (fCs fs ++ rest).take (i * 3 + 2) ++ [v] ++ (fCs fs ++ rest).drop (i * 3 + 2 + 1) = fCs (fs.set i ((f.1.1, f.1.2.1, d), v)) ++ rest := by
 have hl : i < fs.length := (List.getElem?_eq_some_iff.1 hx).1
 have e1 : fCs fs = (fCs (fs.take i) ++ [strV f.1.1, .bool f.1.2.1]) ++ (f.2 :: fCs (fs.drop (i + 1))) := by
  conv => lhs; rw [split_at hx]
  simp [fCs]
 have e2 : fCs (fs.set i ((f.1.1, f.1.2.1, d), v)) = (fCs (fs.take i) ++ [strV f.1.1, .bool f.1.2.1]) ++ (v :: fCs (fs.drop (i + 1))) := by
  rw [set_at hx]
  simp [fCs]
 have hA : (fCs (fs.take i) ++ [strV f.1.1, .bool f.1.2.1]).length = i * 3 + 2 := by
  rw [List.length_append, fCs_len, List.length_take]
  simp only [List.length_cons, List.length_nil]; omega
 rw [e1, e2, List.append_assoc, List.append_assoc, tk_app hA, dr_app 1 hA]
 simp
section
variable {base : BaseF} {S : FSt} {l : List Raw} {hf : HF} {i : Nat} {x : Raw}
theorem bare_row (hx : l[i]? = some x) : l.take i ++ bareL (l.drop i) = l.take i ++ bareR x :: bareL (l.drop (i + 1)) := by
 obtain ⟨hl, rfl⟩ := List.getElem?_eq_some_iff.1 hx
 rw [List.drop_eq_getElem_cons hl]; rfl
theorem bare_next (hx : l[i]? = some x) (hd : bareR x = x) : l.take i ++ bareL (l.drop i) = l.take (i + 1) ++ bareL (l.drop (i + 1)) := by
 rw [bare_row hx, hd, take_snoc hx]; simp
theorem bare_set' (hx : l[i]? = some x) : (l.take i ++ bareL (l.drop i)).set i (x.1, x.2.1, x.2.2) = l.take (i + 1) ++ bareL (l.drop (i + 1)) := by
 have hl : i < l.length := (List.getElem?_eq_some_iff.1 hx).1
 rw [bare_row hx, take_snoc hx]
 have : (l.take i).length = i := by rw [List.length_take]; omega
 rw [List.set_append_right _ _ (by omega), this, Nat.sub_self]
 simp
theorem bare_get (hx : l[i]? = some x) : (l.take i ++ bareL (l.drop i))[i]? = some (bareR x) := by
 have hl : i < l.length := (List.getElem?_eq_some_iff.1 hx).1
 rw [bare_row hx, List.getElem?_append_right (by rw [List.length_take]; omega), List.length_take, Nat.min_eq_left (by omega), Nat.sub_self]; rfl
/-- A row that has no bytes of its own. -/
theorem FR.norow (h : FR base S l hf) (hx : x ∈ l) (hg : cget S.C x.1 = Option.none) : bareR x = x := by
 obtain ⟨a, b, d⟩ := x
 cases b with
 | true => rw [show d = [] from h.dd _ hx rfl]; rfl
 | false => exact absurd hx (h.no hg d)
theorem FR.yesrow {c : Con} (h : FR base S l hf) (hx : x ∈ l) (hg : cget S.C x.1 = some c) : c ∈ S.C ∧ x = (x.1, false, c.d) := by
 obtain ⟨hc, hk⟩ := cget_mem hg
 have := h.row hc
 rw [hk] at this
 exact ⟨hc, names_inj h.names hx this rfl⟩
end
end Go.Proofs.YtigfbpbnohkokaaGreat

namespace Go.Proofs.YtigfbpbnohkokaaGreat
open Go Go.Fw Go.RowKit Go.Proofs
set_option linter.unusedVariables false
set_option linter.unusedSimpArgs false



end Go.Proofs.YtigfbpbnohkokaaGreat

namespace Go.Proofs.YtigfbpbnohkokaaGreat
open Go Go.Fw Go.RowKit Go.Proofs
set_option linter.unusedVariables false
set_option linter.unusedSimpArgs false

set_option maxRecDepth 100000 in
theorem files19_c {w00 w0 : World} {bf : Nat} {bv : Value} {S : FSt} {base : BaseF} {Lb L : List (Nat × Obj)} {l : List Raw} {hf : HF} (M : Sep w00 (fsB bf bv (usedL l) S ++ (Lb ++ L)) w0) (hR : FR base S l hf) (hB : BaseC w00 Lb bv base) : Ret Tryz.prog 17 #[ptr bf] w0 fun r w' => ∃ Lr, FilesO Lr r l ∧ Sep w00 (fsB bf bv (usedL l) S ++ (Lb ++ (L ++ Lr))) w' := by
 have hll : l.length ≤ 128 := by have := hR.tr.le; rwa [bare_len] at this
 refine Ret.of_W Tryz.func17 rfl Tryz.ntmps17 rfl ?_
 refine W.seq ?_
 refine W.sub [(0, _)] ⟨rfl, trivial⟩ ?_
 refine W.reg [(0, false)] (by kernel_rfl) ?_
 intro K hK
 refine x_assign rfl rfl rfl rfl ?_
 refine Ex.done (hK _ _ ?_)
 refine At.then_n ?_
 refine W.seq ?_
 refine W.seq ?_
 refine W.sub [(0, _)] ⟨rfl, trivial⟩ ?_
 refine W.reg [(0, false), (1, false), (2, false), (3, false), (4, false), (5, false), (6, false), (7, false), (8, false)] (by kernel_rfl) ?_
 intro K hK
 refine x_move rfl rfl rfl rfl ?_
 refine x_eqpn false rfl rfl rfl Tryz.underlying34 rfl rfl rfl ?_
 refine x_move rfl rfl rfl rfl ?_
 refine x_move rfl rfl rfl rfl ?_
 refine x_nil rfl rfl rfl rfl rfl ?_
 refine x_fa rfl rfl rfl fo90_1 rfl ?_
 refine x_ld rfl rfl rfl Tryz.underlying83 rfl rfl (cell_of (fs_at M (fun y (hy : y ∈ fsB bf bv (usedL l) S) => by simp [hy])) rfl) ?_
 refine x_eqpn false rfl rfl rfl Tryz.underlying83 rfl rfl rfl ?_
 refine x_pickF rfl rfl rfl rfl rfl ?_
 refine Ex.done (hK _ _ ?_)
 refine At.then_n ?_
 refine W.condF rfl ?_
 refine W.skip ?_
 refine At.then_n ?_
 refine W.seq ?_
 refine W.sub [(0, _)] ⟨rfl, trivial⟩ ?_
 refine W.reg [(0, false), (1, false), (2, false), (3, false), (4, true), (5, false)] (by kernel_rfl) ?_
 intro K hK
 refine x_move rfl rfl rfl rfl ?_
 refine x_nil rfl rfl rfl rfl rfl ?_
 refine x_fa rfl rfl rfl fo90_1 rfl ?_
 refine x_ld rfl rfl rfl Tryz.underlying83 rfl rfl (cell_of (fs_at M (fun y (hy : y ∈ fsB bf bv (usedL l) S) => by simp [hy])) rfl) ?_
 refine x_call rfl rfl rfl rfl rfl en46 (files_r (St.tri (X := []) M) hR.tr) ?_
 rintro r_ w1 ⟨Lr, hl1, M⟩
 have M : Sep w00 (fsB bf bv (usedL l) S ++ (Lb ++ (L ++ Lr))) w1 := St.tro2 (X := []) M
 obtain ⟨fs0, Lo0, Ld0, hm0, rfl, how0, hdat0⟩ := hl1
 obtain ⟨pv, cv, rfl⟩ := how0.shape
 have hfl0 : fs0.length = l.length := by have := congrArg List.length hm0; simpa [bareL] using this
 refine ⟨trivial, ?_⟩
 refine x_assign rfl rfl rfl rfl ?_
 refine Ex.done (hK _ _ ?_)
 refine At.then_n ?_
 refine W.seq ?_
 refine W.seq ?_
 refine W.sub [(0, _), (3, _)] ⟨rfl, rfl, trivial⟩ ?_
 refine W.reg [(0, false), (1, false), (2, false)] (by kernel_rfl) ?_
 intro K hK
 refine x_move rfl rfl rfl rfl ?_
 refine x_len rfl rfl rfl rfl Tryz.underlying24 rfl ?_
 refine x_move rfl rfl rfl rfl ?_
 refine Ex.done (hK _ _ ?_)
 refine At.then_n ?_
 refine W.block ?_
 refine W.loop (σ := Nat × List (Raw × Value) × List (Nat × Obj) × List (Nat × Obj)) (fun q => [(0, _), (3, _), (21, _), (22, _), (23, .int .i64 ((q.1 : Nat) : Int))]) (fun q w => q.1 ≤ l.length ∧ OwL q.2.2.1 (.slice pv fs0.length cv) 3 q.2.1.length (fCs q.2.1) ∧ q.2.1.map (·.1) = l.take q.1 ++ bareL (l.drop q.1) ∧ (∀ f ∈ q.2.1, SlL q.2.2.2 f.2 1 f.1.2.2.length (byteCs f.1.2.2) ∧ f.2.oneCell' = true) ∧ Sep w00 (fsB bf bv (usedL l) S ++ (Lb ++ (L ++ (q.2.2.1 ++ q.2.2.2)))) w) (fun q => l.length - q.1) (0, fs0, Lo0, Ld0) ⟨rfl, rfl, rfl, rfl, rfl, trivial⟩ ⟨Nat.zero_le _, how0, by simpa using hm0, hdat0, M⟩ ?_
 rintro ⟨i, fs, Lo, Ld⟩ w ⟨hi, how, hmap, hdat, M⟩
 simp only at hi how hmap hdat M
 have hfl : fs.length = l.length := by have := congrArg List.length hmap; simp [bareL] at this; omega
 refine W.seq ?_
 refine W.sub [(0, _), (3, _), (21, _), (22, _), (23, _)] ⟨rfl, rfl, rfl, rfl, rfl, trivial⟩ ?_
 refine W.reg [(0, false)] (by kernel_rfl) ?_
 intro K hK
 refine x_lss _ rfl rfl rfl rfl rfl rfl ?_
 refine Ex.done (hK _ _ ?_)
 refine At.then_n ?_
 refine W.seq ?_
 refine W.cond rfl (fun hco2 => ?_) (fun hco2 => ?_)
 ·try simp only [sA, sB, sC, sD, sE, sF, sG, sH, sI, sJ, sK, sL, sM, sN, sO] at hco2
  obtain ⟨x, hx⟩ := get_lt (l := l) (q := i) (by omega)
  have hxl := List.mem_of_getElem? hx
  obtain ⟨f, hfx⟩ := get_lt (l := fs) (q := i) (by omega)
  have hfm := List.mem_of_getElem? hfx
  have hf1 : f.1 = bareR x := by
   have h1 := congrArg (fun z : List Raw => z[i]?) hmap
   simp only [List.getElem?_map, hfx, Option.map_some, bare_get hx, Option.some.injEq] at h1
   exact h1
  obtain ⟨bo, cap, rest, T, hv, hLo, h3, h4⟩ : ∃ bo cap rest T, Value.slice pv fs0.length cv = .slice (some ⟨bo, 0, none⟩) fs.length cap ∧ Lo = [(bo, .cells (fCs fs ++ rest).toArray T (0, 0))] ∧ (fCs fs).length = fs.length * 3 ∧ (fCs fs ++ rest).length = cap * 3 := by
   rcases how with ⟨_, h, _⟩ | h
   ·omega
   ·exact h
  obtain ⟨rfl, rfl⟩ : pv = some ⟨bo, 0, none⟩ ∧ cv = cap := by simp only [Value.slice.injEq] at hv; exact ⟨hv.1, hv.2.2⟩
  subst hLo
  obtain ⟨hsl2, _⟩ := hdat f hfm
  rw [hf1] at hsl2
  obtain ⟨p2, c2, hf2⟩ := hsl2.shape
  have hfe : f = ((x.1, x.2.1, []), .slice p2 0 c2) := Prod.ext hf1 hf2
  have hrow := ((how.sl (by decide)).get (fun y hy => M.get (List.mem_append_right _ (List.mem_append_right _ (List.mem_append_right _ (List.mem_append_left _ hy)))))).row (j := i) (b := bo) (off := 0) (cap := cv) (l := [strV x.1, .bool x.2.1, .slice p2 0 c2]) (by rw [hfl0, hfl]) (by have := flat_drop (m := 3) (e1 := fun f : Raw × Value => [strV f.1.1, .bool f.1.2.1, f.2]) (by decide) (fun _ _ => rfl) hfx; rw [hfe] at this; exact this) (by simp)
  refine W.skip ?_
  refine At.then_n ?_
  refine W.seq ?_
  refine W.block ?_
  refine W.seq ?_
  refine W.sub [(0, _), (3, _), (21, _), (22, _), (23, _)] ⟨rfl, rfl, rfl, rfl, rfl, trivial⟩ ?_
  refine W.reg [(0, false), (1, false), (2, false), (3, true), (4, false), (5, true)] (by kernel_rfl) ?_
  intro K hK
  refine x_move rfl rfl rfl rfl ?_
  refine x_ia i rfl rfl rfl Tryz.underlying24 sz29 rfl rfl rfl (by omega) ?_
  refine x_ldA [_, _, _] rfl rfl rfl Tryz.underlying29 rfl sz29 rfl rfl hrow ?_
  refine x_alloc [_, _, _] rfl rfl rfl ze29 rfl ?_
  intro bal1 wal1 hbal1 hwal1
  have M := M.acons hbal1 hwal1
  refine ⟨trivial, ?_⟩
  refine x_assign rfl rfl rfl rfl ?_
  refine x_st [_, _, _] _ rfl rfl rfl sz29 rfl rfl rfl rfl (M.at_ 0 rfl) rfl rfl rfl ?_
  intro wst1 hwst1
  have M : Sep w00 ((bal1, .cells [strV x.1, .bool x.2.1, .slice p2 0 c2].toArray 29 (0, 0)) :: (fsB bf bv (usedL l) S ++ (Lb ++ (L ++ ([(bo, .cells (fCs fs ++ rest).toArray T (0, 0))] ++ Ld))))) wst1 := M.put 0 rfl hwst1
  refine ⟨trivial, ?_⟩
  refine Ex.done (hK _ _ ?_)
  refine At.then_n ?_
  refine W.seq ?_
  refine W.sub [(0, _), (3, _), (4, _), (5, _), (21, _), (22, _), (23, _)] ⟨rfl, rfl, rfl, rfl, rfl, rfl, rfl, trivial⟩ ?_
  refine W.regD (by kernel_rfl) #[0, 1, 3, 7, 0, 16, 63, 127] [(0, false), (1, false), (2, false), (3, false), (4, false), (5, false), (6, false), (7, false)] (by kernel_rfl) ?_
  intro K wD1 hK hwD1
  have M := M.drew hwD1
  refine x_move rfl rfl rfl rfl ?_
  refine x_nil rfl rfl rfl rfl rfl ?_
  refine x_fa rfl rfl rfl fo90_2 rfl ?_
  refine x_ld rfl rfl rfl Tryz.underlying84 rfl rfl (cell_of (fs_at M (fun y (hy : y ∈ fsB bf bv (usedL l) S) => by simp [hy])) rfl) ?_
  refine x_fa rfl rfl rfl fo29_0 rfl ?_
  refine x_ld rfl rfl rfl Tryz.underlying9 rfl rfl (cell_of (M.at_ 0 rfl) rfl) ?_
  refine x_lk1 (enc := strV) x.1 rfl rfl rfl (strKey Tryz.underlying9) Tryz.underlying84 ze102 rfl rfl ⟨S.om, cmap S.C, M.get (by simp [fsB]), hR.mp, rfl⟩ ?_
  rw [cmap_getD]
  refine x_assign rfl rfl rfl rfl ?_
  refine Ex.done (hK _ _ ?_)
  refine At.then_n ?_
  refine W.seq ?_
  refine W.sub [(0, _), (3, _), (4, _), (6, _), (21, _), (22, _), (23, _)] ⟨rfl, rfl, rfl, rfl, rfl, rfl, rfl, trivial⟩ ?_
  refine W.reg [(0, false), (1, false)] (by kernel_rfl) ?_
  intro K hK
  refine x_move rfl rfl rfl rfl ?_
  refine x_nepn _ rfl rfl rfl Tryz.underlying102 rfl rfl rfl ?_
  refine Ex.done (hK _ _ ?_)
  refine At.then_n ?_
  refine W.cond rfl (fun hco3 => ?_) (fun hco3 => ?_)
  ·try simp only [sA, sB, sC, sD, sE, sF, sG, sH, sI, sJ, sK, sL, sM, sN, sO] at hco3
   obtain ⟨c, hg⟩ : ∃ c, cget S.C x.1 = some c := by
    cases hg : cget S.C x.1 with
    | none => unfold cptr at hco3; rw [hg] at hco3; simp at hco3
    | some c => exact ⟨c, rfl⟩
   obtain ⟨hc, hxe⟩ := hR.yesrow hxl hg
   have hOKc := hR.ok c hc
   have hcl := hOKc.le
   have hcp : cptr S.C x.1 = some ⟨c.b, 0, none⟩ := by unfold cptr; rw [hg]; rfl
   rw [hcp]
   refine W.sub [(0, _), (3, _), (4, _), (6, _), (21, _), (22, _), (23, _)] ⟨rfl, rfl, rfl, rfl, rfl, rfl, rfl, trivial⟩ ?_
   refine W.reg [(0, false), (1, false), (2, false), (3, false), (4, false), (5, true), (6, true), (7, false), (8, false), (9, true)] (by kernel_rfl) ?_
   intro K hK
   refine x_move rfl rfl rfl rfl ?_
   refine x_move rfl rfl rfl rfl ?_
   refine x_move rfl rfl rfl rfl ?_
   refine x_move rfl rfl rfl rfl ?_
   refine x_move rfl rfl rfl rfl ?_
   refine x_call rfl rfl rfl rfl rfl en48 (length_c (con_at M (fun y (hy : y ∈ fsB bf bv (usedL l) S) => by simp [hy]) hc) hOKc) ?_
   rintro r_ w_ ⟨rfl, rfl⟩
   refine ⟨trivial, ?_⟩
   refine x_call rfl rfl rfl rfl rfl en47 (bytes_c (a := 0) (n := c.d.length) (St.fsi (X := [_]) M) hc hOKc hB (by omega)) ?_
   rintro v3 w3 ⟨L3, hb3, M⟩
   have M := St.fso (X := [_]) M
   rw [List.drop_zero, List.take_length] at hb3
   obtain ⟨p3, c3, rfl⟩ := hb3.shape
   have M : Sep w00 ((bo, .cells (fCs fs ++ rest).toArray T (0, 0)) :: (bal1, .cells [strV x.1, .bool x.2.1, .slice p2 0 c2].toArray 29 (0, 0)) :: (fsB bf bv (usedL l) S ++ (Lb ++ (L ++ (Ld ++ L3))))) w3 := M.perm (perm_c fun p => by simp only [List.countP_append, List.countP_cons, List.countP_nil]; omega)
   refine ⟨trivial, ?_⟩
   refine x_ia i rfl rfl rfl Tryz.underlying24 sz29 rfl rfl rfl (by omega) ?_
   refine x_fa rfl rfl rfl fo29_2 rfl ?_
   refine x_st [_] (fCs (fs.set i ((x.1, x.2.1, c.d), .slice p3 c.d.length c3)) ++ rest) rfl rfl rfl sz27 rfl rfl rfl rfl (M.at_ 0 rfl) rfl (by rw [List.length_append, h3]; exact Nat.ble_eq_true_of_le (by simp only [List.length_cons, List.length_nil]; omega)) (by rw [Nat.zero_add]; have := fCs_set (rest := rest) (v := .slice p3 c.d.length c3) (d := c.d) hfx; rw [hfe] at this; exact this) ?_
   intro wst2 hwst2
   have M : Sep w00 ((bo, .cells (fCs (fs.set i ((x.1, x.2.1, c.d), .slice p3 c.d.length c3)) ++ rest).toArray T (0, 0)) :: (bal1, .cells [strV x.1, .bool x.2.1, .slice p2 0 c2].toArray 29 (0, 0)) :: (fsB bf bv (usedL l) S ++ (Lb ++ (L ++ (Ld ++ L3))))) wst2 := M.put 0 rfl hwst2
   refine ⟨trivial, ?_⟩
   refine Ex.done (hK _ _ ?_)
   refine At.blk_n ?_
   refine At.then_n ?_
   refine W.sub [(0, _), (3, _), (21, _), (22, _), (23, _)] ⟨rfl, rfl, rfl, rfl, rfl, trivial⟩ ?_
   refine W.reg [(0, false), (1, false)] (by kernel_rfl) ?_
   intro K hK
   refine x_add _ rfl rfl rfl rfl rfl (wadd (by omega) (by omega)) ?_
   refine x_move rfl rfl rfl rfl ?_
   refine Ex.done (hK _ _ ?_)
   exact At.back ((i + 1, (fs.set i ((x.1, x.2.1, c.d), .slice p3 c.d.length c3)), [(bo, .cells (fCs (fs.set i ((x.1, x.2.1, c.d), .slice p3 c.d.length c3)) ++ rest).toArray T (0, 0))], Ld ++ L3)) ⟨rfl, rfl, rfl, rfl, rfl, trivial⟩ ⟨by simp only; omega, .inr ⟨bo, cv, rest, T, by simp only [List.length_set]; exact hv, rfl, by simp only [List.length_set]; rw [fCs_len, List.length_set], by rw [List.length_append, fCs_len, List.length_set]; rw [List.length_append, h3] at h4; exact h4⟩, by simp only; rw [List.map_set, hmap, show ((x.1, x.2.1, c.d) : Raw) = (x.1, x.2.1, x.2.2) by rw [hxe], bare_set' hx], fun g hg => by
    rcases List.mem_or_eq_of_mem_set hg with hg | rfl
    ·exact ⟨(hdat g hg).1.mono (fun y hy => List.mem_append_left _ hy), (hdat g hg).2⟩
    ·exact ⟨(OwL.sl hb3 (by decide)).mono (fun y hy => List.mem_append_right _ hy), rfl⟩, (M.perm (List.Perm.swap _ _ _)).tail.perm (perm_c fun p => by simp only [List.countP_append, List.countP_cons, List.countP_nil]; omega)⟩ (by first | omega | (simp only; omega) | (simp; done) | (simp; omega))
  ·try simp only [sA, sB, sC, sD, sE, sF, sG, sH, sI, sJ, sK, sL, sM, sN, sO] at hco3
   have hg : cget S.C x.1 = none := by
    cases hg : cget S.C x.1 with
    | none => rfl
    | some c => unfold cptr at hco3; rw [hg] at hco3; simp at hco3
   refine W.skip ?_
   refine At.blk_n ?_
   refine At.then_n ?_
   refine W.sub [(0, _), (3, _), (21, _), (22, _), (23, _)] ⟨rfl, rfl, rfl, rfl, rfl, trivial⟩ ?_
   refine W.reg [(0, false), (1, false)] (by kernel_rfl) ?_
   intro K hK
   refine x_add _ rfl rfl rfl rfl rfl (wadd (by omega) (by omega)) ?_
   refine x_move rfl rfl rfl rfl ?_
   refine Ex.done (hK _ _ ?_)
   exact At.back ((i + 1, fs, [(bo, .cells (fCs fs ++ rest).toArray T (0, 0))], Ld)) ⟨rfl, rfl, rfl, rfl, rfl, trivial⟩ ⟨by simp only; omega, how, by simp only; rw [hmap, bare_next hx (hR.norow hxl hg)], hdat, M.tail⟩ (by first | omega | (simp only; omega) | (simp; done) | (simp; omega))
 ·try simp only [sA, sB, sC, sD, sE, sF, sG, sH, sI, sJ, sK, sL, sM, sN, sO] at hco2
  refine W.exit ?_
  refine At.then_x ?_
  refine At.loop_x ?_
  refine At.blk_x ?_
  refine At.then_n ?_
  refine W.seq ?_
  refine W.sub [(3, _)] ⟨rfl, trivial⟩ ?_
  refine W.reg [(0, false), (1, false)] (by kernel_rfl) ?_
  intro K hK
  refine x_move rfl rfl rfl rfl ?_
  refine x_assign rfl rfl rfl rfl ?_
  refine Ex.done (hK _ _ ?_)
  refine At.then_n ?_
  refine W.ret ?_
  refine At.ret1 (.tmp 2) rfl ⟨rfl, trivial⟩ ?_
  have hi2 : i = l.length := by omega
  subst hi2
  rw [List.take_length, List.drop_length] at hmap
  exact ⟨Lo ++ Ld, ⟨fs, Lo, Ld, by rw [hmap]; simp [bareL], rfl, how, hdat⟩, M⟩
end Go.Proofs.YtigfbpbnohkokaaGreat

namespace Go.Proofs.YtigfbpbnohkokaaGreat
open Go Go.Fw Go.RowKit
set_option linter.unusedVariables false
set_option linter.unusedSimpArgs false

abbrev Mt := List UInt8 × Bool × Int
def mCs (ml : List Mt) : List Value := ml.flatMap fun m => [strV m.1, .bool m.2.1, .int .i64 m.2.2]
theorem mCs_one (ml : List Mt) : ∀ u ∈ mCs ml, u.oneCell' = true := by
 intro u hu
 obtain ⟨m, _, hu⟩ := List.mem_flatMap.1 hu
 simp only [List.mem_cons, List.not_mem_nil, or_false] at hu
 rcases hu with rfl | rfl | rfl <;> rfl
def MetasAt (w : World) (v : Value) (ml : List Mt) : Prop := Sg w v 3 ml.length (mCs ml)
def badM (m : Mt) : Bool := decide (m.2.2 < 0) || (m.2.1 && decide (m.2.2 ≠ 0))
def metaR (x : Raw) : Mt := (x.1, x.2.1, (x.2.2.length : Int))
def mRaw (m : Mt) : Raw := (m.1, m.2.1, [])
noncomputable def newS (l : List Raw) : List Raw × Int := if l.any (fun x => decide (65536 < x.2.2.length)) = true then ([], 3) else if (ofL (bareL l)).2 ≠ 0 then ([], (ofL (bareL l)).2) else if 262144 < usedL l then ([], 7) else ((ofL l).1, 0)
section
variable {w w1 : World} {v : Value} {ml : List Mt} {p : Option Addr} {b off len cap j : Nat} {m : Mt}
theorem MetasAt.new (h : MetasAt w v ml) (hn : New w w1) : MetasAt w1 v ml := Sg.new h hn
theorem MetasAt.blk (h : MetasAt w (.slice p len cap) ml) (hj : j < ml.length) : ∃ b off, p = some ⟨b, off, none⟩ ∧ len = ml.length := Sg.blk (j := j) h hj
theorem MetasAt.row (h : MetasAt w (.slice (some ⟨b, off, none⟩) len cap) ml) (hx : ml[j]? = some m) : RowAt w b (off + j * 3) [strV m.1, .bool m.2.1, .int .i64 m.2.2] := by
 have hj : j < ml.length := (List.getElem?_eq_some_iff.1 hx).1
 obtain ⟨b', off', h6, h7⟩ := MetasAt.blk h hj
 cases h6; subst h7
 exact (Sg.sl h (by omega)).row (j := j) (l := [strV m.1, .bool m.2.1, .int .i64 m.2.2]) rfl (flat_drop (m := 3) (e1 := fun m : Mt => [strV m.1, .bool m.2.1, .int .i64 m.2.2]) (by decide) (fun _ _ => rfl) hx) (by simp)
end
section
variable {l : List Raw} {x : Raw}
def OKd (l : List Raw) : Prop := ∀ x ∈ l, x.2.2.length ≤ 65536 ∧ (x.2.1 = true → x.2.2 = [])
theorem bare_single (h1 : x.2.2.length ≤ 65536) (h2 : x.2.1 = true → x.2.2 = []) : singleR (bareR x) = singleR x := by
 unfold singleR
 show (if splitE x.1 = 0 ∧ splitN x.1 ≠ [] then (if x.2.1 = true ∧ ([] : List UInt8) ≠ [] then (16 : Int) else if 65536 < ([] : List UInt8).length then 3 else 0) else 8) = _
 split
 ·rw [if_neg (fun h => h.2 rfl), if_neg (by simp), if_neg (fun h => h.2 (h2 h.1)), if_neg (by omega)]
 ·rfl
theorem bare_first (h : OKd l) : firstR (bareL l) = firstR l := by
 unfold firstR bareL
 have : ∀ {m : List Raw}, OKd m → (m.map bareR).find? (fun x => decide (singleR x ≠ 0)) = (m.find? (fun x => decide (singleR x ≠ 0))).map bareR := by
  intro m
  induction m with
  | nil => intro _; rfl
  | cons y m ih =>
   intro hm
   have hy := hm y List.mem_cons_self
   have ih := ih (fun z hz => hm z (List.mem_cons_of_mem _ hz))
   rw [List.map_cons, List.find?_cons, List.find?_cons, bare_single hy.1 hy.2]
   split
   ·rfl
   ·exact ih
 rw [this h]
 cases hx : l.find? (fun x => decide (singleR x ≠ 0)) with
 | none => rfl
 | some y =>
  have hm := h y (List.mem_of_find?_eq_some hx)
  exact bare_single hm.1 hm.2
theorem bare_fold : ∀ (l A : List Raw), (bareL l).foldl withR (bareL A) = bareL (l.foldl withR A)
 | [], A => rfl
 | x :: l, A => by
  show (bareL l).foldl withR (withR (bareL A) (bareR x)) = _
  rw [bare_with]
  exact bare_fold l _
theorem bare_fillX (N : NP) (t : List Raw) : ∀ k, fillX N (bareL t) k = bareL (fillX N t k)
 | 0 => rfl
 | k + 1 => by
  unfold fillX
  rw [bare_fillX N t k, bare_at]
  split
  ·rfl
  ·rw [show ((joinS (N.take (k + 1)), true, []) : Raw) = bareR (joinS (N.take (k + 1)), true, []) from rfl, bare_with]; rfl
theorem bare_fillL : ∀ (l t : List Raw), fillL (bareL l) (bareL t) = bareL (fillL l t)
 | [], t => rfl
 | x :: l, t => by
  show (bareL l).foldl _ (fillX (splitN x.1) (bareL t) _) = _
  rw [bare_fillX]
  exact bare_fillL l _
theorem bare_badL : badL (bareL l) ↔ badL l := by
 have hb : ∀ i, (bareL l)[i]? = (l[i]?).map bareR := fun i => by unfold bareL; rw [List.getElem?_map]
 unfold badL BadAt
 constructor
 ·rintro ⟨i, k, x, y, h1, h2, h3, h4, h5⟩
  rw [hb] at h1 h2
  obtain ⟨x', g1, rfl⟩ := Option.map_eq_some_iff.1 h1
  obtain ⟨y', g2, rfl⟩ := Option.map_eq_some_iff.1 h2
  exact ⟨i, k, x', y', g1, g2, h3, h4, h5⟩
 ·rintro ⟨i, k, x, y, h1, h2, h3, h4, h5⟩
  exact ⟨i, k, bareR x, bareR y, by rw [hb, h1]; rfl, by rw [hb, h2]; rfl, h3, h4, h5⟩
theorem bare_of (h : OKd l) : ofL (bareL l) = (bareL (ofL l).1, (ofL l).2) := by
 have hn : (bareL l).map (·.1) = l.map (·.1) := bare_names' l
 have hf : fillL (bareL l) ((bareL l).foldl withR []) = bareL (fillL l (l.foldl withR [])) := by
  have := bare_fold l []
  rw [show bareL ([] : List Raw) = [] from rfl] at this
  rw [this, bare_fillL]
 unfold ofL
 rw [bare_first h, hn, hf, bare_len, show badL (bareL l) = badL l from propext bare_badL]
 split
 ·rfl
 ·split
  ·rfl
  ·split
   ·rfl
   ·split <;> rfl
theorem fillX_mem {N : NP} {t : List Raw} {y : Raw} : ∀ k, y ∈ fillX N t k → y ∈ t ∨ (y.2.1 = true ∧ y.2.2 = [])
 | 0, h => .inl h
 | k + 1, h => by
  unfold fillX at h
  split at h
  ·exact fillX_mem k h
  ·rcases withR_mem.1 h with rfl | h
   ·exact .inr ⟨rfl, rfl⟩
   ·exact fillX_mem k h
theorem fillX_sub {N : NP} {t : List Raw} {y : Raw} (h : y ∈ t) : ∀ k, y ∈ fillX N t k
 | 0 => h
 | k + 1 => by
  unfold fillX
  split
  ·exact fillX_sub h k
  ·exact withR_mem.2 (.inr (fillX_sub h k))
theorem fillX_used {N : NP} {t : List Raw} : ∀ k, usedL (fillX N t k) = usedL t
 | 0 => rfl
 | k + 1 => by
  unfold fillX
  split
  ·exact fillX_used k
  ·rw [usedL_with, fillX_used k]; simp
theorem fillL_mem {y : Raw} : ∀ {l t : List Raw}, y ∈ fillL l t → y ∈ t ∨ (y.2.1 = true ∧ y.2.2 = [])
 | [], t, h => .inl h
 | x :: l, t, h => by
  rcases fillL_mem (l := l) h with h | h
  ·exact fillX_mem _ h
  ·exact .inr h
theorem fillL_sub {y : Raw} : ∀ {l t : List Raw}, y ∈ t → y ∈ fillL l t
 | [], t, h => h
 | x :: l, t, h => fillL_sub (l := l) (fillX_sub h _)
theorem fillL_used : ∀ {l t : List Raw}, usedL (fillL l t) = usedL t
 | [], t => rfl
 | x :: l, t => by
  show usedL (fillL l _) = _
  rw [fillL_used (l := l), fillX_used]
theorem fold_used : ∀ {l A : List Raw}, usedL (l.foldl withR A) = usedL l + usedL A
 | [], A => by simp [usedL]
 | x :: l, A => by
  show usedL (l.foldl withR (withR A x)) = _
  rw [fold_used, usedL_with, usedL_cons]; omega
/-- What stands there when files are made. -/
theorem of_facts (h0 : (ofL l).2 = 0) (hd : OKd l) : (l.map (·.1)).Nodup ∧ usedL (ofL l).1 = usedL l ∧ (∀ p d, (p, false, d) ∈ (ofL l).1 ↔ (p, false, d) ∈ l) ∧ ∀ z ∈ (ofL l).1, z.2.1 = true → z.2.2 = [] := by
 unfold ofL at h0 ⊢
 split
 ·rename_i h1; rw [if_pos h1] at h0; exact absurd h0 h1
 ·rename_i h1
  rw [if_neg h1] at h0
  split
  ·rename_i h2; rw [if_pos h2] at h0; cases h0
  ·rename_i h2
   rw [if_neg h2] at h0
   split
   ·rename_i h3; rw [if_pos h3] at h0; cases h0
   ·rename_i h3
    rw [if_neg h3] at h0
    split
    ·rename_i h4; rw [if_pos h4] at h0; cases h0
    ·refine ⟨Classical.not_not.1 h2, by rw [fillL_used, fold_used]; simp [usedL], fun p d => ⟨fun h => ?_, fun h => fillL_sub (fold_mem.2 h)⟩, fun z hz hzd => ?_⟩
     ·rcases fillL_mem h with h | ⟨h, _⟩
      ·exact fold_mem.1 h
      ·cases h
     ·rcases fillL_mem hz with h | ⟨_, h⟩
      ·exact (hd z (fold_mem.1 h)).2 hzd
      ·exact h
end
end Go.Proofs.YtigfbpbnohkokaaGreat

namespace Go.Proofs.YtigfbpbnohkokaaGreat
open Go Go.Fw Go.RowKit Go.Proofs
set_option linter.unusedVariables false
set_option linter.unusedSimpArgs false

set_option maxRecDepth 100000 in
theorem indexM_c {w0 : World} {p : Option Addr} {cap g : Nat} {cp : Array Value} {l : List Mt} {f : Mt → Bool} (h : MetasAt w0 (.slice p l.length cap) l) (hl : l.length ≤ 1000) (hent : entered Tryz.prog g = true)
  (hg : ∀ x ∈ l, ∀ w, New w0 w → Ret Tryz.prog g (#[] ++ [.agg #[strV x.1, .bool x.2.1, .int .i64 x.2.2]].toArray ++ cp) w fun r w' => r = .bool (f x) ∧ New w w') : Ret Tryz.prog 59 #[.slice p l.length cap, .func (.func g) #[] cp] w0 fun r w' => r = .int .i64 (idxI l f) ∧ New w0 w' := by
 have M : Sep w0 [] w0 := St.nil w0
 refine Ret.of_W Tryz.func59 rfl Tryz.ntmps59 rfl ?_
 refine W.seq ?_
 refine W.sub [(0, _), (1, _)] ⟨rfl, rfl, trivial⟩ ?_
 refine W.reg [(0, false)] (by kernel_rfl) ?_
 intro K hK
 refine x_assign rfl rfl rfl rfl ?_
 refine Ex.done (hK _ _ ?_)
 refine At.then_n ?_
 refine W.seq ?_
 refine W.seq ?_
 refine W.sub [(0, _), (1, _)] ⟨rfl, rfl, trivial⟩ ?_
 refine W.reg [(0, false), (1, false), (2, false)] (by kernel_rfl) ?_
 intro K hK
 refine x_move rfl rfl rfl rfl ?_
 refine x_len rfl rfl rfl rfl Tryz.underlying22 rfl ?_
 refine x_move rfl rfl rfl rfl ?_
 refine Ex.done (hK _ _ ?_)
 refine At.then_n ?_
 refine W.block ?_
 refine W.loop (σ := Nat) (fun j => [(0, _), (1, _), (7, _), (8, .int .i64 ((j : Nat) : Int))]) (fun j w => j ≤ l.length ∧ (∀ x ∈ l.take j, f x = false) ∧ Sep w0 [] w) (fun j => l.length - j) 0 ⟨rfl, rfl, rfl, rfl, trivial⟩ ⟨Nat.zero_le _, by simp, M⟩ ?_
 rintro j w ⟨hj, hno, M⟩
 refine W.seq ?_
 refine W.sub [(0, _), (1, _), (7, _), (8, _)] ⟨rfl, rfl, rfl, rfl, trivial⟩ ?_
 refine W.reg [(0, false)] (by kernel_rfl) ?_
 intro K hK
 refine x_lss _ rfl rfl rfl rfl rfl rfl ?_
 refine Ex.done (hK _ _ ?_)
 refine At.then_n ?_
 refine W.seq ?_
 refine W.cond rfl (fun hco1 => ?_) (fun hco1 => ?_)
 ·try simp only [sA, sB, sC, sD, sE, sF, sG, sH, sI, sJ, sK, sL, sM, sN, sO] at hco1
  obtain ⟨x, hx⟩ := get_lt (l := l) (q := j) (by omega)
  have hs := h.new M.frm
  obtain ⟨b, off, rfl, _⟩ := hs.blk (j := j) (by omega)
  have hrow := hs.row hx
  refine W.skip ?_
  refine At.then_n ?_
  refine W.seq ?_
  refine W.block ?_
  refine W.seq ?_
  refine W.sub [(0, _), (1, _), (7, _), (8, _)] ⟨rfl, rfl, rfl, rfl, trivial⟩ ?_
  refine W.reg [(0, false), (1, false)] (by kernel_rfl) ?_
  intro K hK
  refine x_move rfl rfl rfl rfl ?_
  refine x_assign rfl rfl rfl rfl ?_
  refine Ex.done (hK _ _ ?_)
  refine At.then_n ?_
  refine W.seq ?_
  refine W.sub [(0, _), (1, _), (5, _), (7, _), (8, _)] ⟨rfl, rfl, rfl, rfl, rfl, trivial⟩ ?_
  refine W.reg [(0, false), (1, false), (2, false), (3, false), (4, false), (5, true)] (by kernel_rfl) ?_
  intro K hK
  refine x_move rfl rfl rfl rfl ?_
  refine x_move rfl rfl rfl rfl ?_
  refine x_move rfl rfl rfl rfl ?_
  refine x_ia j rfl rfl rfl Tryz.underlying22 sz26 rfl rfl rfl (by omega) ?_
  refine x_ldA [_, _, _] rfl rfl rfl Tryz.underlying26 rfl sz26 rfl rfl hrow ?_
  refine x_call rfl rfl rfl rfl rfl hent (hg x (List.mem_of_getElem? hx) _ M.frm) ?_
  rintro v w1 ⟨rfl, hn1⟩
  have M := M.new hn1
  refine ⟨trivial, ?_⟩
  refine Ex.done (hK _ _ ?_)
  refine At.then_n ?_
  refine W.cond rfl (fun hco2 => ?_) (fun hco2 => ?_)
  ·try simp only [sA, sB, sC, sD, sE, sF, sG, sH, sI, sJ, sK, sL, sM, sN, sO] at hco2
   refine W.seq ?_
   refine W.sub [(5, _)] ⟨rfl, trivial⟩ ?_
   refine W.reg [(0, false), (1, false)] (by kernel_rfl) ?_
   intro K hK
   refine x_move rfl rfl rfl rfl ?_
   refine x_assign rfl rfl rfl rfl ?_
   refine Ex.done (hK _ _ ?_)
   refine At.then_n ?_
   refine W.ret ?_
   refine At.blk_r ?_
   refine At.then_r ?_
   refine At.loop_r ?_
   refine At.blk_r ?_
   refine At.then_r ?_
   refine At.ret1 (.tmp 4) rfl ⟨rfl, trivial⟩ ?_
   exact ⟨by rw [idxI_at hx hno hco2], M.frm⟩
  ·try simp only [sA, sB, sC, sD, sE, sF, sG, sH, sI, sJ, sK, sL, sM, sN, sO] at hco2
   refine W.skip ?_
   refine At.blk_n ?_
   refine At.then_n ?_
   refine W.sub [(0, _), (1, _), (7, _), (8, _)] ⟨rfl, rfl, rfl, rfl, trivial⟩ ?_
   refine W.reg [(0, false), (1, false)] (by kernel_rfl) ?_
   intro K hK
   refine x_add _ rfl rfl rfl rfl rfl (wadd (by omega) (by omega)) ?_
   refine x_move rfl rfl rfl rfl ?_
   refine Ex.done (hK _ _ ?_)
   exact At.back (j + 1) ⟨rfl, rfl, rfl, rfl, trivial⟩ ⟨by omega, mem_take_snoc hx hno hco2, M⟩ (by first | omega | (simp only; omega) | (simp; done) | (simp; omega))
 ·try simp only [sA, sB, sC, sD, sE, sF, sG, sH, sI, sJ, sK, sL, sM, sN, sO] at hco1
  refine W.exit ?_
  refine At.then_x ?_
  refine At.loop_x ?_
  refine At.blk_x ?_
  refine At.then_n ?_
  refine W.seq ?_
  refine W.sub [] trivial ?_
  refine W.reg [(0, false)] (by kernel_rfl) ?_
  intro K hK
  refine x_assign rfl rfl rfl rfl ?_
  refine Ex.done (hK _ _ ?_)
  refine At.then_n ?_
  refine W.ret ?_
  refine At.ret1 (.tmp 4) rfl ⟨rfl, trivial⟩ ?_
  have hj2 : j = l.length := by omega
  subst hj2
  rw [List.take_length] at hno
  exact ⟨by rw [idxI_no hno], M.frm⟩

set_option maxRecDepth 100000 in
theorem containsM_c {w0 : World} {p : Option Addr} {cap g : Nat} {cp : Array Value} {l : List Mt} {f : Mt → Bool} (h : MetasAt w0 (.slice p l.length cap) l) (hl : l.length ≤ 1000) (hent : entered Tryz.prog g = true)
  (hg : ∀ x ∈ l, ∀ w, New w0 w → Ret Tryz.prog g (#[] ++ [.agg #[strV x.1, .bool x.2.1, .int .i64 x.2.2]].toArray ++ cp) w fun r w' => r = .bool (f x) ∧ New w w') : Ret Tryz.prog 36 #[.slice p l.length cap, .func (.func g) #[] cp] w0 fun r w' => r = .bool (l.any f) ∧ New w0 w' := by
 have M : Sep w0 [] w0 := St.nil w0
 refine Ret.of_W Tryz.func36 rfl Tryz.ntmps36 rfl ?_
 refine W.seq ?_
 refine W.sub [(0, _), (1, _)] ⟨rfl, rfl, trivial⟩ ?_
 refine W.reg [(0, false)] (by kernel_rfl) ?_
 intro K hK
 refine x_assign rfl rfl rfl rfl ?_
 refine Ex.done (hK _ _ ?_)
 refine At.then_n ?_
 refine W.seq ?_
 refine W.sub [(0, _), (1, _)] ⟨rfl, rfl, trivial⟩ ?_
 refine W.reg [(0, false), (1, false), (2, true), (3, false), (4, false)] (by kernel_rfl) ?_
 intro K hK
 refine x_move rfl rfl rfl rfl ?_
 refine x_move rfl rfl rfl rfl ?_
 refine x_call rfl rfl rfl rfl rfl en59 (indexM_c h hl hent hg) ?_
 rintro r_ w1 ⟨rfl, hn1⟩
 have M := M.new hn1
 refine ⟨trivial, ?_⟩
 refine x_geq _ rfl rfl rfl rfl rfl rfl ?_
 refine x_assign rfl rfl rfl rfl ?_
 refine Ex.done (hK _ _ ?_)
 refine At.then_n ?_
 refine W.ret ?_
 refine At.ret1 (.tmp 4) rfl ⟨rfl, trivial⟩ ?_
 exact ⟨by rw [any_idx], M.frm⟩

set_option maxRecDepth 100000 in
theorem new1_c {w0 : World} {m : Mt}  : Ret Tryz.prog 37 #[.agg #[strV m.1, .bool m.2.1, .int .i64 m.2.2]] w0 fun r w' => r = .bool (decide (65536 < m.2.2)) ∧ New w0 w' := by
 have M : Sep w0 [] w0 := St.nil w0
 refine Ret.of_W Tryz.func37 rfl Tryz.ntmps37 rfl ?_
 refine W.seq ?_
 refine W.sub [(0, _)] ⟨rfl, trivial⟩ ?_
 refine W.reg [(0, true), (1, false)] (by kernel_rfl) ?_
 intro K hK
 refine x_box [_, _, _] rfl rfl rfl rfl rfl ?_
 intro bbx1 wbx1 hbbx1 hwbx1
 have M := M.acons hbbx1 hwbx1
 refine ⟨trivial, ?_⟩
 refine x_assign rfl rfl rfl rfl ?_
 refine Ex.done (hK _ _ ?_)
 refine At.then_n ?_
 refine W.seq ?_
 refine W.sub [(1, _)] ⟨rfl, trivial⟩ ?_
 refine W.reg [(0, false), (1, false), (2, false), (3, false)] (by kernel_rfl) ?_
 intro K hK
 refine x_fa rfl rfl rfl fo26_2 rfl ?_
 refine x_ld rfl rfl rfl Tryz.underlying3 rfl rfl (cell_of (M.at_ 0 rfl) rfl) ?_
 refine x_gtr _ rfl rfl rfl rfl rfl rfl ?_
 refine x_assign rfl rfl rfl rfl ?_
 refine Ex.done (hK _ _ ?_)
 refine At.then_n ?_
 refine W.ret ?_
 refine At.ret1 (.tmp 2) rfl ⟨rfl, trivial⟩ ?_
 exact ⟨rfl, M.frm⟩
end Go.Proofs.YtigfbpbnohkokaaGreat

namespace Go.Proofs.YtigfbpbnohkokaaGreat
open Go Go.Fw Go.RowKit
set_option linter.unusedVariables false
set_option linter.unusedSimpArgs false

def bCs (ml : List Mt) : List Value := fCs (ml.map fun m => (mRaw m, .slice none 0 0))
theorem bCs_one (ml : List Mt) : ∀ u ∈ bCs ml, u.oneCell' = true := fCs_one fun f hf => by
 obtain ⟨m, _, rfl⟩ := List.mem_map.1 hf; rfl
theorem bCs_snoc (ml : List Mt) (m : Mt) : bCs (ml ++ [m]) = bCs ml ++ [strV m.1, .bool m.2.1, .slice none 0 0] := by
 unfold bCs fCs
 simp [mRaw]
theorem bare_at_mem {L : List (Nat × Obj)} {u : Value} {ml : List Mt} {w : World} (how : OwL L u 3 ml.length (bCs ml)) (hg : ∀ y ∈ L, w.heap[y.1]? = some y.2) : FilesAt w u (ml.map mRaw) :=
 ⟨ml.map fun m => (mRaw m, .slice none 0 0), by rw [List.map_map]; rfl, .inr (by rw [List.length_map]; exact (how.sl (by decide)).get hg), fun f hf => by
  obtain ⟨m, _, rfl⟩ := List.mem_map.1 hf
  exact ⟨.inr (.inl ⟨rfl, rfl, rfl⟩), rfl⟩⟩
section
variable {l : List Raw} {ml : List Mt} {j : Nat} {C : List Con} {x : Raw} {m : Mt}
theorem badM_no (h : badM m = false) : 0 ≤ m.2.2 ∧ (m.2.1 = true → m.2.2 = 0) := by
 unfold badM at h
 simp only [Bool.or_eq_false_iff, decide_eq_false_iff_not, Bool.and_eq_false_imp] at h
 exact ⟨by omega, fun hd => by have := h.2 hd; omega⟩
theorem mRaw_meta (l : List Raw) : (l.map metaR).map mRaw = bareL l := by unfold bareL; rw [List.map_map]; rfl
theorem big_any (l : List Raw) : (l.map metaR).any (fun m => decide (65536 < m.2.2)) = l.any fun x => decide (65536 < x.2.2.length) := by
 rw [List.any_map]
 congr 1
 funext x
 show decide ((65536 : Int) < (x.2.2.length : Int)) = _
 rw [decide_eq_decide]; omega
theorem okd_of (hb : (l.map metaR).any badM = false) (hg : l.any (fun x => decide (65536 < x.2.2.length)) = false) : OKd l := fun x hx => by
 have h1 := List.any_eq_false.1 hb (metaR x) (List.mem_map.2 ⟨x, hx, rfl⟩)
 have h2 := List.any_eq_false.1 hg x hx
 obtain ⟨g1, g2⟩ := badM_no (m := metaR x) (by simpa using h1)
 refine ⟨by simpa using h2, fun hd => List.length_eq_zero_iff.1 ?_⟩
 have := g2 hd
 have : (x.2.2.length : Int) = 0 := this
 omega
theorem newS_3 (h : l.any (fun x => decide (65536 < x.2.2.length)) = true) : newS l = ([], 3) := by unfold newS; rw [if_pos h]
theorem newS_of (h : l.any (fun x => decide (65536 < x.2.2.length)) = false) (h2 : (ofL (bareL l)).2 ≠ 0) : newS l = ([], (ofL (bareL l)).2) := by unfold newS; rw [if_neg (by rw [h]; simp), if_pos h2]
theorem newS_7 (h : l.any (fun x => decide (65536 < x.2.2.length)) = false) (h2 : (ofL (bareL l)).2 = 0) (h3 : 262144 < usedL l) : newS l = ([], 7) := by unfold newS; rw [if_neg (by rw [h]; simp), if_neg (fun e => e h2), if_pos h3]
theorem newS_0 (h : l.any (fun x => decide (65536 < x.2.2.length)) = false) (h2 : (ofL (bareL l)).2 = 0) (h3 : ¬ 262144 < usedL l) : newS l = ((ofL l).1, 0) := by unfold newS; rw [if_neg (by rw [h]; simp), if_neg (fun e => e h2), if_neg h3]
structure MkI (l : List Raw) (j : Nat) (C : List Con) : Prop where
 rows : (C.map fun c => ((c.k, false, c.d) : Raw)) = (l.take j).filter fun x => !x.2.1
 con : ∀ c ∈ C, c.own = false ∧ c.D = [] ∧ c.v = .slice none 0 0 ∧ c.nm = c.k ∧ c.sz = c.d.length
theorem MkI.nil : MkI l 0 [] := ⟨by simp, by simp⟩
theorem MkI.skip (h : MkI l j C) (hx : l[j]? = some x) (hd : x.2.1 = true) : MkI l (j + 1) C := ⟨by rw [take_snoc hx, List.filter_append, ← h.rows]; simp [hd], h.con⟩
theorem MkI.step (h : MkI l j C) (hx : l[j]? = some x) (hd : x.2.1 = false) (b : Nat) : MkI l (j + 1) (C ++ [⟨x.1, b, false, .slice none 0 0, [], x.1, x.2.2.length, x.2.2⟩]) := by
 refine ⟨?_, fun c hc => ?_⟩
 ·rw [take_snoc hx, List.filter_append, ← h.rows, List.map_append]
  obtain ⟨a, b', d⟩ := x
  simp only at hd
  subst hd
  simp
 ·rcases List.mem_append.1 hc with hc | hc
  ·exact h.con c hc
  ·rw [List.mem_singleton.1 hc]; exact ⟨rfl, rfl, rfl, rfl, rfl⟩
theorem MkI.keys (h : MkI l j C) : C.map (·.k) = ((l.take j).filter fun x => !x.2.1).map (·.1) := by
 rw [← h.rows, List.map_map]; rfl
theorem MkI.new (h : MkI l j C) (hn : (l.map (·.1)).Nodup) (hx : l[j]? = some x) : ∀ c ∈ C, c.k ≠ x.1 := fun c hc e => by
 have h1 : c.k ∈ (l.take j).map (·.1) := by
  have : c.k ∈ C.map (·.k) := List.mem_map.2 ⟨c, hc, rfl⟩
  rw [h.keys] at this
  obtain ⟨y, hy, hy1⟩ := List.mem_map.1 this
  exact List.mem_map.2 ⟨y, (List.mem_filter.1 hy).1, hy1⟩
 rw [split_at hx, List.map_append, List.nodup_append] at hn
 exact hn.2.2 c.k h1 x.1 (by simp) e
theorem cmap_snoc {c : Con} (hno : ∀ x ∈ C, x.k ≠ c.k) : cmap (C ++ [c]) = setF (cmap C) c.k (some (ptr c.b)) := by
 funext q
 unfold cmap cget setF
 rw [List.find?_append]
 by_cases e : q = c.k
 ·subst e
  have : C.find? (fun x => decide (x.k = c.k)) = none := List.find?_eq_none.2 fun x hx => by simpa using hno x hx
  rw [this, if_pos rfl]; simp
 ·rw [if_neg e]
  show ((C.find? (fun c => decide (c.k = q))).or _).map _ = (C.find? (fun c => decide (c.k = q))).map _
  cases C.find? (fun c => decide (c.k = q)) with
  | some x => rfl
  | none =>
   have : ¬ c.k = q := fun h => e h.symm
   simp [this]
def hs0 : List Hd := List.replicate 128 ([], false)
/-- What is made is as it should be. -/
theorem made_fr {base : BaseF} {bt bm : Nat} {om : Obj} {E : List Ent} (hd : OKd l) (h0 : (ofL (bareL l)).2 = 0) (hu : usedL l ≤ 262144) (hT : TR E (ofL (bareL l)).1) (hI : MkI l l.length C) (hm : MapF strV om (cmap C)) (hba : ∀ x ∈ l, x.2.1 = false → base x.1 = some x.2.2) :
  FR base ⟨bt, bm, om, E, C, hs0⟩ (ofL l).1 (fun _ _ => none) ∧ usedL (ofL l).1 = usedL l := by
 have hof := bare_of hd
 have h0' : (ofL l).2 = 0 := by rw [hof] at h0; exact h0
 obtain ⟨hn, hus, hmem, hdd⟩ := of_facts h0' hd
 have hrows := hI.rows
 rw [List.take_length] at hrows
 have hC : ∀ c ∈ C, (c.k, false, c.d) ∈ l := fun c hc => by
  have : (c.k, false, c.d) ∈ C.map (fun c => ((c.k, false, c.d) : Raw)) := List.mem_map.2 ⟨c, hc, rfl⟩
  rw [hrows] at this
  exact (List.mem_filter.1 this).1
 refine ⟨⟨?_, hm, ?_, ?_, ?_, hdd, by rw [hus]; exact hu, by simp [hs0], ?_, ?_⟩, hus⟩
 ·rw [hof] at hT; exact hT
 ·have := hI.keys
  rw [List.take_length] at this
  show (C.map (·.k)).Nodup
  rw [this]
  exact ((List.filter_sublist).map _).nodup hn
 ·intro c hc
  obtain ⟨g1, g2, g3, g4, g5⟩ := hI.con c hc
  exact ⟨(hd _ (hC c hc)).1, (fun h => by rw [g1] at h; cases h), fun _ => ⟨g2, g3, g5, by rw [g4]; exact hba _ (hC c hc) rfl⟩⟩
 ·intro p d
  rw [hmem]
  constructor
  ·intro h
   have : (p, false, d) ∈ l.filter (fun x => !x.2.1) := List.mem_filter.2 ⟨h, rfl⟩
   rw [← hrows] at this
   obtain ⟨c, hc, e⟩ := List.mem_map.1 this
   simp only [Prod.mk.injEq, true_and] at e
   exact ⟨c, hc, e.1, e.2⟩
  ·rintro ⟨c, hc, rfl, rfl⟩
   exact hC c hc
 ·funext who n
  unfold hAt
  split
  ·have : ∀ i : Nat, (match hs0[i]? with | some h => if h.1 = [] then none else some h | none => none) = (none : Option Hd) := by
    intro i
    unfold hs0
    rw [List.getElem?_replicate]
    by_cases hi : i < 128
    ·rw [if_pos hi]; simp
    ·rw [if_neg hi]
   exact (this _).symm
  ·rfl
 ·intro h hh h1
  rw [List.eq_of_mem_replicate hh] at h1
  exact absurd rfl h1
end
end Go.Proofs.YtigfbpbnohkokaaGreat

namespace Go.Proofs.YtigfbpbnohkokaaGreat
open Go Go.Fw Go.RowKit Go.Proofs
set_option linter.unusedVariables false
set_option linter.unusedSimpArgs false
set_option maxRecDepth 100000 in
theorem used_take {l : List Raw} (h : OKd l) : ∀ j, usedL (l.take j) ≤ j * 65536
 | 0 => by simp [usedL]
 | j + 1 => by
  have ih := used_take h j
  by_cases hj : j < l.length
  ·obtain ⟨x, hx⟩ := get_lt (l := l) (q := j) hj
   rw [take_snoc hx, usedL_app, usedL_cons]
   have h1 := (h x (List.mem_of_getElem? hx)).1
   rw [show usedL ([] : List Raw) = 0 from rfl, Nat.add_zero, Nat.succ_mul]
   exact Nat.add_le_add ih h1
  ·rw [List.take_of_length_le (by omega)]
   rw [List.take_of_length_le (by omega)] at ih
   exact Nat.le_trans ih (Nat.mul_le_mul_right _ (Nat.le_succ j))
set_option maxRecDepth 100000 in
theorem onew_c {w0 : World} {v bv : Value} {ml : List Mt} {l : List Raw} {base : BaseF} (h : MetasAt w0 v ml) (hl : ml.length ≤ 1000) (hbv : nilI bv = some false) (hml : ml.any badM = false → ml = l.map metaR) (hba : (newS l).2 = 0 → ∀ x ∈ l, x.2.1 = false → base x.1 = some x.2.2) : Ret Tryz.prog 13 #[v, bv] w0 fun r w' => (ml.any badM = true ∧ r = .tuple #[.pointer none, .int .i64 2] ∧ New w0 w') ∨ (ml.any badM = false ∧ (newS l).2 ≠ 0 ∧ r = .tuple #[.pointer none, .int .i64 (newS l).2] ∧ New w0 w') ∨ (ml.any badM = false ∧ (newS l).2 = 0 ∧ ∃ bf S, r = .tuple #[ptr bf, .int .i64 0] ∧ FR base S (newS l).1 (fun _ _ => none) ∧ Sep w0 (fsB bf bv (usedL (newS l).1) S) w') := by
 have M : Sep w0 [] w0 := St.nil w0
 obtain ⟨pv, cv, rfl⟩ := Sg.shape h
 obtain ⟨Ty, rv, rfl⟩ : ∃ Ty rv, bv = .iface Ty rv := by cases bv <;> simp [nilI] at hbv; exact ⟨_, _, rfl⟩
 have hul0 : usedL (l.take 0) = 0 := rfl
 refine Ret.of_W Tryz.func13 rfl Tryz.ntmps13 rfl ?_
 refine W.seq ?_
 refine W.sub [(0, _), (1, _)] ⟨rfl, rfl, trivial⟩ ?_
 refine W.reg [(0, false), (1, false)] (by kernel_rfl) ?_
 intro K hK
 refine x_assign rfl rfl rfl rfl ?_
 refine x_assign rfl rfl rfl rfl ?_
 refine Ex.done (hK _ _ ?_)
 refine At.then_n ?_
 refine W.seq ?_
 refine W.seq ?_
 refine W.sub [(0, _), (1, _)] ⟨rfl, rfl, trivial⟩ ?_
 refine W.reg [(0, false), (1, false)] (by kernel_rfl) ?_
 intro K hK
 refine x_move rfl rfl rfl rfl ?_
 refine x_eqif false rfl rfl rfl Tryz.underlying82 rfl rfl hbv ?_
 refine Ex.done (hK _ _ ?_)
 refine At.then_n ?_
 refine W.condF rfl ?_
 refine W.skip ?_
 refine At.then_n ?_
 refine W.seq ?_
 refine W.sub [(0, _), (1, _)] ⟨rfl, rfl, trivial⟩ ?_
 refine W.reg [(0, false)] (by kernel_rfl) ?_
 intro K hK
 refine x_assign rfl rfl rfl rfl ?_
 refine Ex.done (hK _ _ ?_)
 refine At.then_n ?_
 refine W.seq ?_
 refine W.seq ?_
 refine W.sub [(0, _), (1, _), (6, _)] ⟨rfl, rfl, rfl, trivial⟩ ?_
 refine W.reg [(0, false), (1, false), (2, false)] (by kernel_rfl) ?_
 intro K hK
 refine x_move rfl rfl rfl rfl ?_
 refine x_len rfl rfl rfl rfl Tryz.underlying22 rfl ?_
 refine x_move rfl rfl rfl rfl ?_
 refine Ex.done (hK _ _ ?_)
 refine At.then_n ?_
 refine W.block ?_
 refine W.loop (σ := Nat × Value × List (Nat × Obj)) (fun q => [(0, _), (1, _), (6, q.2.1), (16, _), (17, _), (18, .int .i64 ((q.1 : Nat) : Int))]) (fun q w => q.1 ≤ ml.length ∧ (∀ m ∈ ml.take q.1, badM m = false) ∧ OwL q.2.2 q.2.1 3 q.1 (bCs (ml.take q.1)) ∧ Sep w0 q.2.2 w) (fun q => ml.length - q.1) (0, .slice none 0 0, []) ⟨rfl, rfl, rfl, rfl, rfl, rfl, trivial⟩ ⟨Nat.zero_le _, by simp, OwL.nil, M⟩ ?_
 rintro ⟨j, u, Lo⟩ w ⟨hj, hok, how, M⟩
 simp only at hj hok how M
 obtain ⟨pu, cu, rfl⟩ := how.shape
 refine W.seq ?_
 refine W.sub [(0, _), (1, _), (6, _), (16, _), (17, _), (18, _)] ⟨rfl, rfl, rfl, rfl, rfl, rfl, trivial⟩ ?_
 refine W.reg [(0, false)] (by kernel_rfl) ?_
 intro K hK
 refine x_lss _ rfl rfl rfl rfl rfl rfl ?_
 refine Ex.done (hK _ _ ?_)
 refine At.then_n ?_
 refine W.seq ?_
 refine W.cond rfl (fun hco2 => ?_) (fun hco2 => ?_)
 ·try simp only [sA, sB, sC, sD, sE, sF, sG, sH, sI, sJ, sK, sL, sM, sN, sO] at hco2
  obtain ⟨m, hx⟩ := get_lt (l := ml) (q := j) (by omega)
  obtain ⟨bb, off, rfl, _⟩ := (h.new M.frm).blk (j := j) (by omega)
  have hrow := (h.new M.frm).row hx
  refine W.skip ?_
  refine At.then_n ?_
  refine W.seq ?_
  refine W.block ?_
  refine W.seq ?_
  refine W.sub [(0, _), (1, _), (6, _), (16, _), (17, _), (18, _)] ⟨rfl, rfl, rfl, rfl, rfl, rfl, trivial⟩ ?_
  refine W.reg [(0, false), (1, false), (2, true), (3, true)] (by kernel_rfl) ?_
  intro K hK
  refine x_ia j rfl rfl rfl Tryz.underlying22 sz26 rfl rfl rfl (by omega) ?_
  refine x_ldA [_, _, _] rfl rfl rfl Tryz.underlying26 rfl sz26 rfl rfl hrow ?_
  refine x_alloc [_, _, _] rfl rfl rfl ze26 rfl ?_
  intro bal1 wal1 hbal1 hwal1
  have M := M.acons hbal1 hwal1
  refine ⟨trivial, ?_⟩
  refine x_st [_, _, _] _ rfl rfl rfl sz26 rfl rfl rfl rfl (M.at_ 0 rfl) rfl rfl rfl ?_
  intro wst1 hwst1
  have M := M.put 0 rfl hwst1
  refine ⟨trivial, ?_⟩
  refine Ex.done (hK _ _ ?_)
  refine At.then_n ?_
  refine W.seq ?_
  refine W.seq ?_
  refine W.sub [(0, _), (1, _), (6, _), (8, _), (16, _), (17, _), (18, _)] ⟨rfl, rfl, rfl, rfl, rfl, rfl, rfl, trivial⟩ ?_
  refine W.reg [(0, false), (1, false), (2, false), (3, false), (4, false), (5, false), (6, false), (7, false), (8, false), (9, false), (10, false), (11, false)] (by kernel_rfl) ?_
  intro K hK
  refine x_fa rfl rfl rfl fo26_2 rfl ?_
  refine x_ld rfl rfl rfl Tryz.underlying3 rfl rfl (cell_of (M.at_ 0 rfl) rfl) ?_
  refine x_lss _ rfl rfl rfl rfl rfl rfl ?_
  refine x_move rfl rfl rfl rfl ?_
  refine Ex.split 25 rfl (fun hsp1 => ?_) (fun hsp1 => ?_)
  ·
   try simp only [sA, sB, sC, sD, sE, sF, sG, sH, sI, sJ, sK, sL, sM, sN, sO] at hsp1
   refine Ex.skip_ rfl rfl rfl ?_
   refine Ex.skip_ rfl rfl rfl ?_
   refine Ex.skip_ rfl rfl rfl ?_
   refine Ex.skip_ rfl rfl rfl ?_
   refine Ex.skip_ rfl rfl rfl ?_
   refine Ex.skip_ rfl rfl rfl ?_
   refine Ex.skip_ rfl rfl rfl ?_
   refine x_pickT rfl rfl rfl rfl rfl ?_
   refine Ex.done (hK _ _ ?_)
   refine At.then_n ?_
   refine W.condT rfl ?_
   refine W.seq ?_
   refine W.sub [] trivial ?_
   refine W.reg [(0, false), (1, false)] (by kernel_rfl) ?_
   intro K hK
   refine x_assign rfl rfl rfl rfl ?_
   refine x_assign rfl rfl rfl rfl ?_
   refine Ex.done (hK _ _ ?_)
   refine At.then_n ?_
   refine W.ret ?_
   refine At.then_r ?_
   refine At.blk_r ?_
   refine At.then_r ?_
   refine At.loop_r ?_
   refine At.blk_r ?_
   refine At.then_r ?_
   refine At.ret2 (.tmp 4) (.tmp 5) rfl ⟨rfl, rfl, trivial⟩ ?_
   exact .inl ⟨List.any_eq_true.2 ⟨m, List.mem_of_getElem? hx, by unfold badM; simp [hsp1]⟩, rfl, M.frm⟩
  ·
   try simp only [sA, sB, sC, sD, sE, sF, sG, sH, sI, sJ, sK, sL, sM, sN, sO] at hsp1
   refine x_fa rfl rfl rfl fo26_1 rfl ?_
   refine x_ld rfl rfl rfl Tryz.underlying4 rfl rfl (cell_of (M.at_ 0 rfl) rfl) ?_
   refine x_move rfl rfl rfl rfl ?_
   refine Ex.split 28 rfl (fun hsp2 => ?_) (fun hsp2 => ?_)
   ·
    try simp only [sA, sB, sC, sD, sE, sF, sG, sH, sI, sJ, sK, sL, sM, sN, sO] at hsp2
    refine x_fa rfl rfl rfl fo26_2 rfl ?_
    refine x_ld rfl rfl rfl Tryz.underlying3 rfl rfl (cell_of (M.at_ 0 rfl) rfl) ?_
    refine x_nei _ rfl rfl rfl rfl rfl rfl ?_
    refine x_pickT rfl rfl rfl rfl rfl ?_
    refine x_pickF rfl rfl rfl rfl rfl ?_
    refine Ex.done (hK _ _ ?_)
    refine At.then_n ?_
    refine W.cond rfl (fun hco4 => ?_) (fun hco4 => ?_)
    ·try simp only [sA, sB, sC, sD, sE, sF, sG, sH, sI, sJ, sK, sL, sM, sN, sO] at hco4
     refine W.seq ?_
     refine W.sub [] trivial ?_
     refine W.reg [(0, false), (1, false)] (by kernel_rfl) ?_
     intro K hK
     refine x_assign rfl rfl rfl rfl ?_
     refine x_assign rfl rfl rfl rfl ?_
     refine Ex.done (hK _ _ ?_)
     refine At.then_n ?_
     refine W.ret ?_
     refine At.then_r ?_
     refine At.blk_r ?_
     refine At.then_r ?_
     refine At.loop_r ?_
     refine At.blk_r ?_
     refine At.then_r ?_
     refine At.ret2 (.tmp 4) (.tmp 5) rfl ⟨rfl, rfl, trivial⟩ ?_
     exact .inl ⟨List.any_eq_true.2 ⟨m, List.mem_of_getElem? hx, by unfold badM; simp [hsp2, hco4]⟩, rfl, M.frm⟩
    ·try simp only [sA, sB, sC, sD, sE, sF, sG, sH, sI, sJ, sK, sL, sM, sN, sO] at hco4
     have hbm : badM m = false := by unfold badM; simp [hco4]; try omega
     refine W.skip ?_
     refine At.then_n ?_
     refine W.sub [(0, _), (1, _), (6, _), (8, _), (16, _), (17, _), (18, _)] ⟨rfl, rfl, rfl, rfl, rfl, rfl, rfl, trivial⟩ ?_
     refine W.reg [(0, false), (1, false), (2, false), (3, false), (4, false), (5, false), (6, true), (7, true), (8, false)] (by kernel_rfl) ?_
     intro K hK
     refine x_move rfl rfl rfl rfl ?_
     refine x_fa rfl rfl rfl fo26_0 rfl ?_
     refine x_ld rfl rfl rfl Tryz.underlying9 rfl rfl (cell_of (M.at_ 0 rfl) rfl) ?_
     refine x_fa rfl rfl rfl fo26_1 rfl ?_
     refine x_ld rfl rfl rfl Tryz.underlying4 rfl rfl (cell_of (M.at_ 0 rfl) rfl) ?_
     refine x_build [_, _, _] rfl rfl rfl pl29 ze29 rfl rfl rfl ?_
     refine x_bs1 (cs := [strV m.1, .bool m.2.1, .slice none 0 0]) rfl rfl rfl Tryz.underlying24 sz29 ze29 (Z := [_, _, _]) rfl rfl (by decide) (by decide) rfl rfl rfl ?_
     intro bbs1 wbs1 hbbs1 hwbs1
     have M0 := M.acons hbbs1 hwbs1
     have hslbs1 : Sl wbs1 (.slice (some ⟨bbs1, 0, none⟩) 1 1) 3 1 [strV m.1, .bool m.2.1, .slice none 0 0] := .inr ⟨bbs1, 0, 1, _, _, _, rfl, by omega, M0.at_ 0 rfl, rfl, rfl⟩
     have M := M0.tail
     refine ⟨trivial, ?_⟩
     have M : Sep w0 (Lo ++ []) wbs1 := by rw [List.append_nil]; exact M.tail
     refine x_apL rfl rfl rfl rfl Tryz.underlying24 sz29 ze29 rfl by29 rfl rfl how M (bCs_one _) (hslbs1.src Tryz.underlying24 (by intro u hu; simp at hu; rcases hu with rfl | rfl | rfl <;> rfl)) (by omega) (by decide) (by omega) ?_
     intro Lo2 v6 w6 how M
     rw [← bCs_snoc, ← take_snoc hx] at how
     refine ⟨trivial, ?_⟩
     refine x_assign rfl rfl rfl rfl ?_
     refine Ex.done (hK _ _ ?_)
     refine At.blk_n ?_
     refine At.then_n ?_
     refine W.sub [(0, _), (1, _), (6, _), (16, _), (17, _), (18, _)] ⟨rfl, rfl, rfl, rfl, rfl, rfl, trivial⟩ ?_
     refine W.reg [(0, false), (1, false)] (by kernel_rfl) ?_
     intro K hK
     refine x_add _ rfl rfl rfl rfl rfl (wadd (by omega) (by omega)) ?_
     refine x_move rfl rfl rfl rfl ?_
     refine Ex.done (hK _ _ ?_)
     exact At.back ((j + 1, v6, Lo2)) ⟨rfl, rfl, rfl, rfl, rfl, rfl, trivial⟩ ⟨by simp only; omega, mem_take_snoc hx hok hbm, how, by simpa using M⟩ (by first | omega | (simp only; omega) | (simp; done) | (simp; omega))
   ·
    try simp only [sA, sB, sC, sD, sE, sF, sG, sH, sI, sJ, sK, sL, sM, sN, sO] at hsp2
    have hbm : badM m = false := by unfold badM; simp [hsp2]; try omega
    refine Ex.skip_ rfl rfl rfl ?_
    refine Ex.skip_ rfl rfl rfl ?_
    refine Ex.skip_ rfl rfl rfl ?_
    refine x_pickF rfl rfl rfl rfl rfl ?_
    refine x_pickF rfl rfl rfl rfl rfl ?_
    refine Ex.done (hK _ _ ?_)
    refine At.then_n ?_
    refine W.condF rfl ?_
    refine W.skip ?_
    refine At.then_n ?_
    refine W.sub [(0, _), (1, _), (6, _), (8, _), (16, _), (17, _), (18, _)] ⟨rfl, rfl, rfl, rfl, rfl, rfl, rfl, trivial⟩ ?_
    refine W.reg [(0, false), (1, false), (2, false), (3, false), (4, false), (5, false), (6, true), (7, true), (8, false)] (by kernel_rfl) ?_
    intro K hK
    refine x_move rfl rfl rfl rfl ?_
    refine x_fa rfl rfl rfl fo26_0 rfl ?_
    refine x_ld rfl rfl rfl Tryz.underlying9 rfl rfl (cell_of (M.at_ 0 rfl) rfl) ?_
    refine x_fa rfl rfl rfl fo26_1 rfl ?_
    refine x_ld rfl rfl rfl Tryz.underlying4 rfl rfl (cell_of (M.at_ 0 rfl) rfl) ?_
    refine x_build [_, _, _] rfl rfl rfl pl29 ze29 rfl rfl rfl ?_
    refine x_bs1 (cs := [strV m.1, .bool m.2.1, .slice none 0 0]) rfl rfl rfl Tryz.underlying24 sz29 ze29 (Z := [_, _, _]) rfl rfl (by decide) (by decide) rfl rfl rfl ?_
    intro bbs2 wbs2 hbbs2 hwbs2
    have M0 := M.acons hbbs2 hwbs2
    have hslbs2 : Sl wbs2 (.slice (some ⟨bbs2, 0, none⟩) 1 1) 3 1 [strV m.1, .bool m.2.1, .slice none 0 0] := .inr ⟨bbs2, 0, 1, _, _, _, rfl, by omega, M0.at_ 0 rfl, rfl, rfl⟩
    have M := M0.tail
    refine ⟨trivial, ?_⟩
    have M : Sep w0 (Lo ++ []) wbs2 := by rw [List.append_nil]; exact M.tail
    refine x_apL rfl rfl rfl rfl Tryz.underlying24 sz29 ze29 rfl by29 rfl rfl how M (bCs_one _) (hslbs2.src Tryz.underlying24 (by intro u hu; simp at hu; rcases hu with rfl | rfl | rfl <;> rfl)) (by omega) (by decide) (by omega) ?_
    intro Lo2 v6 w6 how M
    rw [← bCs_snoc, ← take_snoc hx] at how
    refine ⟨trivial, ?_⟩
    refine x_assign rfl rfl rfl rfl ?_
    refine Ex.done (hK _ _ ?_)
    refine At.blk_n ?_
    refine At.then_n ?_
    refine W.sub [(0, _), (1, _), (6, _), (16, _), (17, _), (18, _)] ⟨rfl, rfl, rfl, rfl, rfl, rfl, trivial⟩ ?_
    refine W.reg [(0, false), (1, false)] (by kernel_rfl) ?_
    intro K hK
    refine x_add _ rfl rfl rfl rfl rfl (wadd (by omega) (by omega)) ?_
    refine x_move rfl rfl rfl rfl ?_
    refine Ex.done (hK _ _ ?_)
    exact At.back ((j + 1, v6, Lo2)) ⟨rfl, rfl, rfl, rfl, rfl, rfl, trivial⟩ ⟨by simp only; omega, mem_take_snoc hx hok hbm, how, by simpa using M⟩ (by first | omega | (simp only; omega) | (simp; done) | (simp; omega))
 ·try simp only [sA, sB, sC, sD, sE, sF, sG, sH, sI, sJ, sK, sL, sM, sN, sO] at hco2
  have hj2 : j = ml.length := by omega
  subst hj2
  rw [List.take_length] at hok how
  have hany : ml.any badM = false := List.any_eq_false.2 fun x hx => by rw [hok x hx]; simp
  have hme := hml hany
  have hll : l.length = ml.length := by rw [hme]; simp
  have hany2 := hany
  rw [hme] at hany2
  refine W.exit ?_
  refine At.then_x ?_
  refine At.loop_x ?_
  refine At.blk_x ?_
  refine At.then_n ?_
  refine W.seq ?_
  refine W.seq ?_
  refine W.sub [(0, _), (1, _), (6, _)] ⟨rfl, rfl, rfl, trivial⟩ ?_
  refine W.reg [(0, false), (1, true)] (by kernel_rfl) ?_
  intro K hK
  refine x_move rfl rfl rfl rfl ?_
  refine x_call rfl rfl rfl rfl rfl en36 (containsM_c (g := 37) (cp := #[]) (f := fun m => decide (65536 < m.2.2)) (h.new M.frm) (by omega) en37 (fun x _ w2 hn2 => new1_c)) ?_
  rintro r_ w1 ⟨rfl, hn1⟩
  have M := M.new hn1
  rw [show (ml.any fun m => decide (65536 < m.2.2)) = l.any fun x => decide (65536 < x.2.2.length) by rw [hme]; exact big_any l]
  refine ⟨trivial, ?_⟩
  refine Ex.done (hK _ _ ?_)
  refine At.then_n ?_
  refine W.cond rfl (fun hco6 => ?_) (fun hco6 => ?_)
  ·try simp only [sA, sB, sC, sD, sE, sF, sG, sH, sI, sJ, sK, sL, sM, sN, sO] at hco6
   refine W.seq ?_
   refine W.sub [] trivial ?_
   refine W.reg [(0, false), (1, false)] (by kernel_rfl) ?_
   intro K hK
   refine x_assign rfl rfl rfl rfl ?_
   refine x_assign rfl rfl rfl rfl ?_
   refine Ex.done (hK _ _ ?_)
   refine At.then_n ?_
   refine W.ret ?_
   refine At.then_r ?_
   refine At.ret2 (.tmp 4) (.tmp 5) rfl ⟨rfl, rfl, trivial⟩ ?_
   exact .inr (.inl ⟨hany, by rw [newS_3 hco6]; decide, by rw [newS_3 hco6], M.frm⟩)
  ·try simp only [sA, sB, sC, sD, sE, sF, sG, sH, sI, sJ, sK, sL, sM, sN, sO] at hco6
   have hokd := okd_of hany2 hco6
   refine W.skip ?_
   refine At.then_n ?_
   refine W.seq ?_
   refine W.sub [(0, _), (1, _), (6, _)] ⟨rfl, rfl, rfl, trivial⟩ ?_
   refine W.reg [(0, false), (1, true), (2, false), (3, false), (4, false), (5, false), (6, false)] (by kernel_rfl) ?_
   intro K hK
   refine x_move rfl rfl rfl rfl ?_
   refine x_call rfl rfl rfl rfl rfl en38 (of_r2 (l := bareL l) (by rw [show bareL l = ml.map mRaw by rw [hme, mRaw_meta]]; exact bare_at_mem how (fun y hy => M.get hy)) (by rw [bare_len]; omega)) ?_
   rintro r_ w2 ⟨po, TB, rfl, M2, hpo, hofk⟩
   have M := M.grow' M2
   refine ⟨trivial, ?_⟩
   refine x_move rfl rfl rfl rfl ?_
   refine x_ext rfl rfl rfl rfl rfl ?_
   refine x_ext rfl rfl rfl rfl rfl ?_
   refine x_assign rfl rfl rfl rfl ?_
   refine x_assign rfl rfl rfl rfl ?_
   refine Ex.done (hK _ _ ?_)
   refine At.then_n ?_
   refine W.seq ?_
   refine W.seq ?_
   refine W.sub [(0, _), (1, _), (9, _), (10, _)] ⟨rfl, rfl, rfl, rfl, trivial⟩ ?_
   refine W.reg [(0, false), (1, false)] (by kernel_rfl) ?_
   intro K hK
   refine x_move rfl rfl rfl rfl ?_
   refine x_nei _ rfl rfl rfl rfl rfl rfl ?_
   refine Ex.done (hK _ _ ?_)
   refine At.then_n ?_
   refine W.cond rfl (fun hco7 => ?_) (fun hco7 => ?_)
   ·try simp only [sA, sB, sC, sD, sE, sF, sG, sH, sI, sJ, sK, sL, sM, sN, sO] at hco7
    refine W.seq ?_
    refine W.sub [(10, _)] ⟨rfl, trivial⟩ ?_
    refine W.reg [(0, false), (1, false), (2, false)] (by kernel_rfl) ?_
    intro K hK
    refine x_move rfl rfl rfl rfl ?_
    refine x_assign rfl rfl rfl rfl ?_
    refine x_assign rfl rfl rfl rfl ?_
    refine Ex.done (hK _ _ ?_)
    refine At.then_n ?_
    refine W.ret ?_
    refine At.then_r ?_
    refine At.ret2 (.tmp 4) (.tmp 5) rfl ⟨rfl, rfl, trivial⟩ ?_
    exact .inr (.inl ⟨hany, by rw [newS_of hco6 hco7]; exact hco7, by rw [newS_of hco6 hco7]; rfl, M.frm⟩)
   ·try simp only [sA, sB, sC, sD, sE, sF, sG, sH, sI, sJ, sK, sL, sM, sN, sO] at hco7
    obtain ⟨E2, bt, rfl, rfl, hT2⟩ := hofk hco7
    refine W.skip ?_
    refine At.then_n ?_
    refine W.seq ?_
    refine W.sub [(0, _), (1, _), (9, _)] ⟨rfl, rfl, rfl, trivial⟩ ?_
    refine W.reg [(0, false), (1, false), (2, true), (3, false), (4, true), (5, false)] (by kernel_rfl) ?_
    intro K hK
    refine x_move rfl rfl rfl rfl ?_
    refine x_move rfl rfl rfl rfl ?_
    refine x_mkmap rfl rfl rfl ?_
    intro bmm1 wmm1 hbmm1 hwmm1
    have M := M.acons hbmm1 hwmm1
    refine ⟨trivial, ?_⟩
    refine x_build (fsC (.iface Ty rv) 0 ⟨bt, bmm1, .map #[] 0, E2, [], hs0⟩) rfl rfl rfl pl90 ze90 rfl rfl (by kernel_rfl) ?_
    refine x_box (fsC (.iface Ty rv) 0 ⟨bt, bmm1, .map #[] 0, E2, [], hs0⟩) rfl rfl rfl rfl rfl ?_
    intro bbx1 wbx1 hbbx1 hwbx1
    have M := M.acons hbbx1 hwbx1
    have M : Sep w0 ((bbx1, .cells (fsC (.iface Ty rv) 0 ⟨bt, bmm1, .map #[] 0, E2, [], hs0⟩).toArray 90 (0, 0)) :: (bmm1, .map #[] 0) :: (tb bt E2 ++ Lo)) wbx1 := M
    have M : Sep w0 (fsB bbx1 (.iface Ty rv) (usedL (l.take 0)) ⟨bt, bmm1, .map #[] 0, E2, [], hs0⟩ ++ Lo) wbx1 := by
     have e : fsB bbx1 (.iface Ty rv) (usedL (l.take 0)) ⟨bt, bmm1, .map #[] 0, E2, [], hs0⟩ = (bbx1, .cells (fsC (.iface Ty rv) 0 ⟨bt, bmm1, .map #[] 0, E2, [], hs0⟩).toArray 90 (0, 0)) :: (bmm1, .map #[] 0) :: (tb bt E2 ++ []) := rfl
     rw [e, List.append_nil]; exact M
    refine ⟨trivial, ?_⟩
    refine x_assign rfl rfl rfl rfl ?_
    refine Ex.done (hK _ _ ?_)
    refine At.then_n ?_
    refine W.seq ?_
    refine W.seq ?_
    refine W.sub [(0, _), (11, _)] ⟨rfl, rfl, trivial⟩ ?_
    refine W.reg [(0, false), (1, false), (2, false)] (by kernel_rfl) ?_
    intro K hK
    refine x_move rfl rfl rfl rfl ?_
    refine x_len rfl rfl rfl rfl Tryz.underlying22 rfl ?_
    refine x_move rfl rfl rfl rfl ?_
    refine Ex.done (hK _ _ ?_)
    refine At.then_n ?_
    refine W.block ?_
    refine W.loop (σ := Nat × Obj × List Con) (fun q => [(11, _), (58, _), (59, _), (60, .int .i64 ((q.1 : Nat) : Int))]) (fun q w => q.1 ≤ ml.length ∧ MkI l q.1 q.2.2 ∧ MapF strV q.2.1 (cmap q.2.2) ∧ Sep w0 (fsB bbx1 (.iface Ty rv) (usedL (l.take q.1)) ⟨bt, bmm1, q.2.1, E2, q.2.2, hs0⟩ ++ Lo) w) (fun q => ml.length - q.1) (0, .map #[] 0, []) ⟨rfl, rfl, rfl, rfl, trivial⟩ ⟨Nat.zero_le _, MkI.nil, MapF.made, M⟩ ?_
    rintro ⟨j, om, C⟩ w ⟨hj, hI, hmp, M⟩
    simp only at hj hI hmp M
    refine W.seq ?_
    refine W.sub [(11, _), (58, _), (59, _), (60, _)] ⟨rfl, rfl, rfl, rfl, trivial⟩ ?_
    refine W.reg [(0, false)] (by kernel_rfl) ?_
    intro K hK
    refine x_lss _ rfl rfl rfl rfl rfl rfl ?_
    refine Ex.done (hK _ _ ?_)
    refine At.then_n ?_
    refine W.seq ?_
    refine W.cond rfl (fun hco8 => ?_) (fun hco8 => ?_)
    ·try simp only [sA, sB, sC, sD, sE, sF, sG, sH, sI, sJ, sK, sL, sM, sN, sO] at hco8
     obtain ⟨m, hx⟩ := get_lt (l := ml) (q := j) (by omega)
     obtain ⟨bb, off, rfl, _⟩ := (h.new M.frm).blk (j := j) (by omega)
     have hrow := (h.new M.frm).row hx
     obtain ⟨x, hlx⟩ := get_lt (l := l) (q := j) (by omega)
     have hmx : m = metaR x := by rw [hme, List.getElem?_map, hlx] at hx; exact (Option.some.inj hx).symm
     subst hmx
     have hxl := List.mem_of_getElem? hlx
     have hxd := (hokd x hxl).1
     have hul : usedL (l.take j) ≤ j * 65536 := used_take hokd j
     have hus : usedL (l.take (j + 1)) = usedL (l.take j) + x.2.2.length := by rw [take_snoc hlx, usedL_app, usedL_cons]; simp [usedL]
     have h0f : (ofL l).2 = 0 := by have := hco7; rw [bare_of hokd] at this; exact this
     have hnd := (of_facts h0f hokd).1
     refine W.skip ?_
     refine At.then_n ?_
     refine W.seq ?_
     refine W.block ?_
     refine W.seq ?_
     refine W.sub [(11, _), (58, _), (59, _), (60, _)] ⟨rfl, rfl, rfl, rfl, trivial⟩ ?_
     refine W.reg [(0, false), (1, false), (2, true), (3, true)] (by kernel_rfl) ?_
     intro K hK
     refine x_ia j rfl rfl rfl Tryz.underlying22 sz26 rfl rfl rfl (by omega) ?_
     refine x_ldA [_, _, _] rfl rfl rfl Tryz.underlying26 rfl sz26 rfl rfl hrow ?_
     refine x_alloc [_, _, _] rfl rfl rfl ze26 rfl ?_
     intro bal2 wal2 hbal2 hwal2
     have M := M.acons hbal2 hwal2
     refine ⟨trivial, ?_⟩
     refine x_st [_, _, _] _ rfl rfl rfl sz26 rfl rfl rfl rfl (M.at_ 0 rfl) rfl rfl rfl ?_
     intro wst2 hwst2
     have M : Sep w0 ((bal2, .cells [strV x.1, .bool x.2.1, .int .i64 (x.2.2.length : Int)].toArray 26 (0, 0)) :: (fsB bbx1 (.iface Ty rv) (usedL (l.take j)) ⟨bt, bmm1, om, E2, C, hs0⟩ ++ Lo)) wst2 := M.put 0 rfl hwst2
     refine ⟨trivial, ?_⟩
     refine Ex.done (hK _ _ ?_)
     refine At.then_n ?_
     refine W.seq ?_
     refine W.sub [(11, _), (13, _), (58, _), (59, _), (60, _)] ⟨rfl, rfl, rfl, rfl, rfl, trivial⟩ ?_
     refine W.reg [(0, false), (1, false), (2, false)] (by kernel_rfl) ?_
     intro K hK
     refine x_fa rfl rfl rfl fo26_1 rfl ?_
     refine x_ld rfl rfl rfl Tryz.underlying4 rfl rfl (cell_of (M.at_ 0 rfl) rfl) ?_
     refine x_not (!x.2.1) rfl rfl rfl rfl rfl ?_
     refine Ex.done (hK _ _ ?_)
     refine At.then_n ?_
     refine W.cond rfl (fun hco9 => ?_) (fun hco9 => ?_)
     ·try simp only [sA, sB, sC, sD, sE, sF, sG, sH, sI, sJ, sK, sL, sM, sN, sO] at hco9
      have hd : x.2.1 = false := by simpa using hco9
      have hnew := hI.new hnd hlx
      refine W.seq ?_
      refine W.sub [(11, _), (13, _), (58, _), (59, _), (60, _)] ⟨rfl, rfl, rfl, rfl, rfl, trivial⟩ ?_
      refine W.regD (by kernel_rfl) #[0, 1, 3, 7, 0, 16, 0, 64, 0, 256, 960, 1984, 4095] [(0, false), (1, false), (2, false), (3, false), (4, false), (5, false), (6, false), (7, false), (8, false), (9, false), (10, false), (11, true), (12, true)] (by kernel_rfl) ?_
      intro K wD1 hK hwD1
      have M : Sep w0 ((bal2, .cells [strV x.1, .bool x.2.1, .int .i64 (x.2.2.length : Int)].toArray 26 (0, 0)) :: (fsB bbx1 (.iface Ty rv) (usedL (l.take j)) ⟨bt, bmm1, om, E2, C, hs0⟩ ++ Lo)) wD1 := M.drew hwD1
      refine x_move rfl rfl rfl rfl ?_
      refine x_nil rfl rfl rfl rfl rfl ?_
      refine x_fa rfl rfl rfl fo90_2 rfl ?_
      refine x_ld rfl rfl rfl Tryz.underlying84 rfl rfl (cell_of (fs_at (X := (bal2, .cells [strV x.1, .bool x.2.1, .int .i64 (x.2.2.length : Int)].toArray 26 (0, 0)) :: (fsB bbx1 (.iface Ty rv) (usedL (l.take j)) ⟨bt, bmm1, om, E2, C, hs0⟩ ++ Lo)) M (fun y (hy : y ∈ fsB bbx1 (.iface Ty rv) (usedL (l.take j)) ⟨bt, bmm1, om, E2, C, hs0⟩) => by simp [hy])) rfl) ?_
      refine x_fa rfl rfl rfl fo26_0 rfl ?_
      refine x_ld rfl rfl rfl Tryz.underlying9 rfl rfl (cell_of (M.at_ 0 rfl) rfl) ?_
      refine x_fa rfl rfl rfl fo26_0 rfl ?_
      refine x_ld rfl rfl rfl Tryz.underlying9 rfl rfl (cell_of (M.at_ 0 rfl) rfl) ?_
      refine x_fa rfl rfl rfl fo26_2 rfl ?_
      refine x_ld rfl rfl rfl Tryz.underlying3 rfl rfl (cell_of (M.at_ 0 rfl) rfl) ?_
      refine x_build [_, _, _, _] rfl rfl rfl pl104 ze104 rfl rfl rfl ?_
      refine x_box [_, _, _, _] rfl rfl rfl rfl rfl ?_
      intro bbx2 wbx2 hbbx2 hwbx2
      have M := M.acons hbbx2 hwbx2
      refine ⟨⟨.inl (by kernel_rfl), .inl (by kernel_rfl), .inr (cell_of (M.at_ 1 rfl) rfl), (by first | exact .inr (cell_of (M.at_ 2 rfl) rfl) | exact .inr (cell_of (fs_at (X := (bal2, .cells [strV x.1, .bool x.2.1, .int .i64 (x.2.2.length : Int)].toArray 26 (0, 0)) :: (fsB bbx1 (.iface Ty rv) (usedL (l.take j)) ⟨bt, bmm1, om, E2, C, hs0⟩ ++ Lo)) M (fun y (hy : y ∈ fsB bbx1 (.iface Ty rv) (usedL (l.take j)) ⟨bt, bmm1, om, E2, C, hs0⟩) => by simp [hy])) rfl)), trivial⟩, ?_⟩
      refine x_mup (enc := strV) x.1 rfl rfl rfl (strKey Tryz.underlying9) Tryz.underlying84 rfl rfl rfl (M.get (by simp [fsB])) hmp ?_
      intro omu1 wmu1 hmmu1 hwmu1
      have M : Sep w0 ((⟨x.1, bbx2, false, .slice none 0 0, [], x.1, x.2.2.length, x.2.2⟩ : Con).hd :: (bal2, .cells [strV x.1, .bool x.2.1, .int .i64 (x.2.2.length : Int)].toArray 26 (0, 0)) :: (fsB bbx1 (.iface Ty rv) (usedL (l.take j)) ⟨bt, bmm1, omu1, E2, C, hs0⟩ ++ Lo)) wmu1 := M.put 3 rfl hwmu1
      have M : Sep w0 ((bal2, .cells [strV x.1, .bool x.2.1, .int .i64 (x.2.2.length : Int)].toArray 26 (0, 0)) :: (fsB bbx1 (.iface Ty rv) (usedL (l.take j)) ⟨bt, bmm1, omu1, E2, (C ++ [(⟨x.1, bbx2, false, .slice none 0 0, [], x.1, x.2.2.length, x.2.2⟩ : Con)]), hs0⟩ ++ Lo)) wmu1 := M.perm (perm_c fun p => by
       unfold fsB
       have e : fsC (.iface Ty rv) (usedL (l.take j)) ⟨bt, bmm1, omu1, E2, (C ++ [(⟨x.1, bbx2, false, .slice none 0 0, [], x.1, x.2.2.length, x.2.2⟩ : Con)]), hs0⟩ = fsC (.iface Ty rv) (usedL (l.take j)) ⟨bt, bmm1, omu1, E2, C, hs0⟩ := rfl
       simp only [e, cblks_app, cblks_cons, Con.blks, List.countP_append, List.countP_cons, List.countP_nil]
       simp only [cblks, List.flatMap_nil, List.countP_nil]
       omega)
      rw [← cmap_snoc (c := (⟨x.1, bbx2, false, .slice none 0 0, [], x.1, x.2.2.length, x.2.2⟩ : Con)) hnew] at hmmu1
      refine ⟨⟨.inl (by kernel_rfl), .inl (by kernel_rfl), .inl (by kernel_rfl), .inl (by kernel_rfl), trivial⟩, ?_⟩
      refine Ex.done (hK _ _ ?_)
      refine At.then_n ?_
      refine W.sub [(11, _), (13, _), (58, _), (59, _), (60, _)] ⟨rfl, rfl, rfl, rfl, rfl, trivial⟩ ?_
      refine W.regD (by kernel_rfl) #[0, 1, 3, 7, 0, 16, 63, 127, 255, 511] [(0, false), (1, false), (2, false), (3, false), (4, false), (5, false), (6, false), (7, false), (8, false), (9, true)] (by kernel_rfl) ?_
      intro K wD2 hK hwD2
      have M : Sep w0 ((bal2, .cells [strV x.1, .bool x.2.1, .int .i64 (x.2.2.length : Int)].toArray 26 (0, 0)) :: (fsB bbx1 (.iface Ty rv) (usedL (l.take j)) ⟨bt, bmm1, omu1, E2, (C ++ [(⟨x.1, bbx2, false, .slice none 0 0, [], x.1, x.2.2.length, x.2.2⟩ : Con)]), hs0⟩ ++ Lo)) wD2 := M.drew hwD2
      refine x_move rfl rfl rfl rfl ?_
      refine x_nil rfl rfl rfl rfl rfl ?_
      refine x_fa rfl rfl rfl fo90_4 rfl ?_
      refine x_ld rfl rfl rfl Tryz.underlying3 rfl rfl (cell_of (fs_at M (fun y (hy : y ∈ fsB bbx1 (.iface Ty rv) (usedL (l.take j)) ⟨bt, bmm1, omu1, E2, (C ++ [(⟨x.1, bbx2, false, .slice none 0 0, [], x.1, x.2.2.length, x.2.2⟩ : Con)]), hs0⟩) => by simp [hy])) (fsC_used rfl)) ?_
      refine x_fa rfl rfl rfl fo26_2 rfl ?_
      refine x_ld rfl rfl rfl Tryz.underlying3 rfl rfl (cell_of (M.at_ 0 rfl) rfl) ?_
      refine x_add ((usedL (l.take (j + 1)) : Nat) : Int) rfl rfl rfl rfl rfl (by rw [wadd (by omega) (by omega), hus]; omega) ?_
      refine x_nil rfl rfl rfl rfl rfl ?_
      refine x_fa rfl rfl rfl fo90_4 rfl ?_
      refine x_st [_] (fsC (.iface Ty rv) (usedL (l.take (j + 1))) ⟨bt, bmm1, omu1, E2, (C ++ [(⟨x.1, bbx2, false, .slice none 0 0, [], x.1, x.2.2.length, x.2.2⟩ : Con)]), hs0⟩) rfl rfl rfl sz3 rfl rfl rfl rfl (fs_at M (fun y (hy : y ∈ fsB bbx1 (.iface Ty rv) (usedL (l.take j)) ⟨bt, bmm1, omu1, E2, (C ++ [(⟨x.1, bbx2, false, .slice none 0 0, [], x.1, x.2.2.length, x.2.2⟩ : Con)]), hs0⟩) => by simp [hy])) rfl (by rw [fsC_len (S := ⟨bt, bmm1, omu1, E2, (C ++ [(⟨x.1, bbx2, false, .slice none 0 0, [], x.1, x.2.2.length, x.2.2⟩ : Con)]), hs0⟩) rfl]; rfl) (fsC_use (S := ⟨bt, bmm1, omu1, E2, (C ++ [(⟨x.1, bbx2, false, .slice none 0 0, [], x.1, x.2.2.length, x.2.2⟩ : Con)]), hs0⟩) rfl) ?_
      intro wst3 hwst3
      have M : Sep w0 ((bal2, .cells [strV x.1, .bool x.2.1, .int .i64 (x.2.2.length : Int)].toArray 26 (0, 0)) :: (fsB bbx1 (.iface Ty rv) (usedL (l.take (j + 1))) ⟨bt, bmm1, omu1, E2, (C ++ [(⟨x.1, bbx2, false, .slice none 0 0, [], x.1, x.2.2.length, x.2.2⟩ : Con)]), hs0⟩ ++ Lo)) wst3 := M.put 1 rfl hwst3
      refine ⟨⟨.inl (by kernel_rfl), .inl (by kernel_rfl), trivial⟩, ?_⟩
      refine Ex.done (hK _ _ ?_)
      refine At.blk_n ?_
      refine At.then_n ?_
      refine W.sub [(11, _), (58, _), (59, _), (60, _)] ⟨rfl, rfl, rfl, rfl, trivial⟩ ?_
      refine W.reg [(0, false), (1, false)] (by kernel_rfl) ?_
      intro K hK
      refine x_add _ rfl rfl rfl rfl rfl (wadd (by omega) (by omega)) ?_
      refine x_move rfl rfl rfl rfl ?_
      refine Ex.done (hK _ _ ?_)
      exact At.back ((j + 1, omu1, C ++ [(⟨x.1, bbx2, false, .slice none 0 0, [], x.1, x.2.2.length, x.2.2⟩ : Con)])) ⟨rfl, rfl, rfl, rfl, trivial⟩ ⟨by simp only; omega, hI.step hlx hd bbx2, hmmu1, M.tail⟩ (by first | omega | (simp only; omega) | (simp; done) | (simp; omega))
     ·try simp only [sA, sB, sC, sD, sE, sF, sG, sH, sI, sJ, sK, sL, sM, sN, sO] at hco9
      have hd : x.2.1 = true := by simpa using hco9
      have hx0 : x.2.2 = [] := (hokd x hxl).2 hd
      refine W.skip ?_
      refine At.blk_n ?_
      refine At.then_n ?_
      refine W.sub [(11, _), (58, _), (59, _), (60, _)] ⟨rfl, rfl, rfl, rfl, trivial⟩ ?_
      refine W.reg [(0, false), (1, false)] (by kernel_rfl) ?_
      intro K hK
      refine x_add _ rfl rfl rfl rfl rfl (wadd (by omega) (by omega)) ?_
      refine x_move rfl rfl rfl rfl ?_
      refine Ex.done (hK _ _ ?_)
      exact At.back ((j + 1, om, C)) ⟨rfl, rfl, rfl, rfl, trivial⟩ ⟨by simp only; omega, hI.skip hlx hd, hmp, by simp only; rw [hus, hx0]; exact M.tail⟩ (by first | omega | (simp only; omega) | (simp; done) | (simp; omega))
    ·try simp only [sA, sB, sC, sD, sE, sF, sG, sH, sI, sJ, sK, sL, sM, sN, sO] at hco8
     have hj2 : j = l.length := by omega
     subst hj2
     rw [List.take_length] at M
     refine W.exit ?_
     refine At.then_x ?_
     refine At.loop_x ?_
     refine At.blk_x ?_
     refine At.then_n ?_
     refine W.seq ?_
     refine W.seq ?_
     refine W.sub [(11, _)] ⟨rfl, trivial⟩ ?_
     refine W.reg [(0, false), (1, false), (2, false), (3, false), (4, false)] (by kernel_rfl) ?_
     intro K hK
     refine x_move rfl rfl rfl rfl ?_
     refine x_nil rfl rfl rfl rfl rfl ?_
     refine x_fa rfl rfl rfl fo90_4 rfl ?_
     refine x_ld rfl rfl rfl Tryz.underlying3 rfl rfl (cell_of (fs_at M (fun y (hy : y ∈ fsB bbx1 (.iface Ty rv) (usedL l) ⟨bt, bmm1, om, E2, C, hs0⟩) => by simp [hy])) (fsC_used rfl)) ?_
     refine x_gtr _ rfl rfl rfl rfl rfl rfl ?_
     refine Ex.done (hK _ _ ?_)
     refine At.then_n ?_
     refine W.cond rfl (fun hco10 => ?_) (fun hco10 => ?_)
     ·try simp only [sA, sB, sC, sD, sE, sF, sG, sH, sI, sJ, sK, sL, sM, sN, sO] at hco10
      refine W.seq ?_
      refine W.sub [] trivial ?_
      refine W.reg [(0, false), (1, false)] (by kernel_rfl) ?_
      intro K hK
      refine x_assign rfl rfl rfl rfl ?_
      refine x_assign rfl rfl rfl rfl ?_
      refine Ex.done (hK _ _ ?_)
      refine At.then_n ?_
      refine W.ret ?_
      refine At.then_r ?_
      refine At.ret2 (.tmp 4) (.tmp 5) rfl ⟨rfl, rfl, trivial⟩ ?_
      exact .inr (.inl ⟨hany, by rw [newS_7 hco6 hco7 (by omega)]; decide, by rw [newS_7 hco6 hco7 (by omega)], M.frm⟩)
     ·try simp only [sA, sB, sC, sD, sE, sF, sG, sH, sI, sJ, sK, sL, sM, sN, sO] at hco10
      refine W.skip ?_
      refine At.then_n ?_
      refine W.seq ?_
      refine W.sub [(11, _)] ⟨rfl, trivial⟩ ?_
      refine W.reg [(0, false), (1, false), (2, false)] (by kernel_rfl) ?_
      intro K hK
      refine x_move rfl rfl rfl rfl ?_
      refine x_assign rfl rfl rfl rfl ?_
      refine x_assign rfl rfl rfl rfl ?_
      refine Ex.done (hK _ _ ?_)
      refine At.then_n ?_
      refine W.ret ?_
      refine At.ret2 (.tmp 4) (.tmp 5) rfl ⟨rfl, rfl, trivial⟩ ?_
      have hN := newS_0 hco6 hco7 (by omega)
      obtain ⟨hF, hU⟩ := made_fr (base := base) (bt := bt) (bm := bmm1) hokd hco7 (by omega) hT2 hI hmp (hba (by rw [hN]))
      refine .inr (.inr ⟨hany, by rw [hN], bbx1, _, rfl, by rw [hN]; exact hF, ?_⟩)
      rw [hN]
      simp only
      rw [hU]
      exact M.dropR
end Go.Proofs.YtigfbpbnohkokaaGreat

namespace Go.Proofs.YtigfbpbnohkokaaGreat
open Go Go.Fw Go.RowKit Go.Proofs
set_option linter.unusedVariables false
set_option linter.unusedSimpArgs false

set_option maxRecDepth 100000 in
theorem with_c {w00 w0 : World} {L X : List (Nat × Obj)} {v : Value} {l : List Raw} {x : Raw} {dv : Value} (M : Sep w00 (L ++ X) w0) (h : FilesK w00 L v l) (hd : SgK w00 L dv 1 x.2.2.length (byteCs x.2.2)) (hl : l.length ≤ 5000) (hnm : ∀ y ∈ l, y.1.length ≤ 2000) (hxl : x.1.length ≤ 2000) : Ret Tryz.prog 33 #[.agg #[v], .agg #[strV x.1, .bool x.2.1, dv]] w0 fun r w' => ∃ u L', r = .agg #[u] ∧ FilesK w00 (L ++ L') u (withR l x) ∧ Sep w00 ((L ++ L') ++ X) w' := by
 have hFK := h
 obtain ⟨fs, hfm, hfs, hfd⟩ := h
 have hfl : fs.length = l.length := by rw [← hfm]; simp
 rw [hfl] at hfs
 obtain ⟨pv, cv, rfl⟩ := (hfs _ _ M (fun y hy => by simp [hy])).shape
 have hcap := Sg.capLe (hfs _ _ M (fun y hy => by simp [hy]))
 obtain ⟨pd, cd, rfl⟩ := (hd _ _ M (fun y hy => by simp [hy])).shape
 have hone : ∀ f ∈ fs, f.2.oneCell' = true := fun f hf => (hfd f hf).2
 refine Ret.of_W Tryz.func33 rfl Tryz.ntmps33 rfl ?_
 refine W.seq ?_
 refine W.sub [(0, _), (1, _)] ⟨rfl, rfl, trivial⟩ ?_
 refine W.reg [(0, true), (1, true), (2, true)] (by kernel_rfl) ?_
 intro K hK
 refine x_box [_] rfl rfl rfl rfl rfl ?_
 intro bbx1 wbx1 hbbx1 hwbx1
 have M := M.acons hbbx1 hwbx1
 refine ⟨trivial, ?_⟩
 refine x_box [_, _, _] rfl rfl rfl rfl rfl ?_
 intro bbx2 wbx2 hbbx2 hwbx2
 have M := M.acons hbbx2 hwbx2
 refine ⟨trivial, ?_⟩
 refine x_alloc [_] rfl rfl rfl ze31 rfl ?_
 intro bal1 wal1 hbal1 hwal1
 have M := M.acons hbal1 hwal1
 refine ⟨trivial, ?_⟩
 refine Ex.done (hK _ _ ?_)
 refine At.then_n ?_
 refine W.seq ?_
 refine W.sub [(2, _), (3, _), (4, _)] ⟨rfl, rfl, rfl, trivial⟩ ?_
 refine W.reg [(0, false)] (by kernel_rfl) ?_
 intro K hK
 refine x_assign rfl rfl rfl rfl ?_
 refine Ex.done (hK _ _ ?_)
 refine At.then_n ?_
 refine W.seq ?_
 refine W.block ?_
 refine W.loop (σ := Nat) (fun j => [(2, _), (3, _), (4, _), (5, .int .i64 ((j : Nat) : Int))]) (fun j w => j ≤ l.length ∧ (∀ y ∈ l.take j, compareP y.1 x.1 < 0) ∧ Sep w00 ([(bal1, .cells [.slice none 0 0].toArray 31 (0, 0)), (bbx2, .cells [strV x.1, .bool x.2.1, .slice pd x.2.2.length cd].toArray 29 (0, 0)), (bbx1, .cells [.slice pv l.length cv].toArray 31 (0, 0))] ++ (L ++ X)) w) (fun j => l.length - j) 0 ⟨rfl, rfl, rfl, rfl, trivial⟩ ⟨Nat.zero_le _, by simp, M⟩ ?_
 rintro j w ⟨hj, hlt, M⟩
 refine W.seq ?_
 refine W.seq ?_
 refine W.sub [(2, _), (3, _), (4, _), (5, _)] ⟨rfl, rfl, rfl, rfl, trivial⟩ ?_
 refine W.regD (by kernel_rfl) #[0, 0, 2, 6, 15, 31, 63, 127, 63, 511, 1023, 2047, 63, 4159, 16383, 32767, 65535] [(0, false), (1, false), (2, false), (3, false), (4, false), (5, false), (6, false), (7, false), (8, false), (9, false), (10, false), (11, false), (12, false), (13, false), (14, true), (15, false), (16, false)] (by kernel_rfl) ?_
 intro K wD1 hK hwD1
 have M := M.drew hwD1
 refine x_move rfl rfl rfl rfl ?_
 refine x_fa rfl rfl rfl fo31_0 rfl ?_
 refine x_ld rfl rfl rfl Tryz.underlying24 rfl rfl (cell_of (M.at_ 2 rfl) rfl) ?_
 refine x_len rfl rfl rfl rfl Tryz.underlying24 rfl ?_
 refine x_lss _ rfl rfl rfl rfl rfl rfl ?_
 refine x_move rfl rfl rfl rfl ?_
 refine Ex.split 12 rfl (fun hsp1 => ?_) (fun hsp1 => ?_)
 ·
  try simp only [sA, sB, sC, sD, sE, sF, sG, sH, sI, sJ, sK, sL, sM, sN, sO] at hsp1
  obtain ⟨y, hy⟩ := get_lt (l := l) (q := j) (by omega)
  have hfa := hFK.at_ M (fun y hy => by simp [hy])
  obtain ⟨bb, off, rfl, _⟩ := hfa.blk (j := j) (by omega)
  obtain ⟨py, cy, hrow, _⟩ := hfa.row hy
  have hyl := hnm y (List.mem_of_getElem? hy)
  refine x_fa rfl rfl rfl fo31_0 rfl ?_
  refine x_ld rfl rfl rfl Tryz.underlying24 rfl rfl (cell_of (M.at_ 2 rfl) rfl) ?_
  refine x_move rfl rfl rfl rfl ?_
  refine x_ia j rfl rfl rfl Tryz.underlying24 sz29 rfl rfl rfl (by omega) ?_
  refine x_fa rfl rfl rfl fo29_0 rfl ?_
  refine x_ld rfl rfl rfl Tryz.underlying9 rfl rfl (RowAt.cell hrow (j := 0) rfl) ?_
  refine x_fa rfl rfl rfl fo29_0 rfl ?_
  refine x_ld rfl rfl rfl Tryz.underlying9 rfl rfl (cell_of (M.at_ 1 rfl) rfl) ?_
  refine x_call rfl rfl rfl rfl rfl en58 (rcompare_c (by omega) (by omega)) ?_
  rintro r wcall1 ⟨rfl, hncall1⟩
  have M := M.new hncall1
  refine ⟨⟨.inl (by kernel_rfl), .inl (by kernel_rfl), .inl (by kernel_rfl), .inl (by kernel_rfl), trivial⟩, ?_⟩
  refine x_lss _ rfl rfl rfl rfl rfl rfl ?_
  refine x_pickT rfl rfl rfl rfl rfl ?_
  refine Ex.done (hK _ _ ?_)
  refine At.then_n ?_
  refine W.cond rfl (fun hco1 => ?_) (fun hco1 => ?_)
  ·try simp only [sA, sB, sC, sD, sE, sF, sG, sH, sI, sJ, sK, sL, sM, sN, sO] at hco1
   refine W.skip ?_
   refine At.then_n ?_
   refine W.block ?_
   refine W.sub [(2, _), (3, _), (4, _), (5, _)] ⟨rfl, rfl, rfl, rfl, trivial⟩ ?_
   refine W.reg [(0, false), (1, false), (2, false)] (by kernel_rfl) ?_
   intro K hK
   refine x_move rfl rfl rfl rfl ?_
   refine x_add _ rfl rfl rfl rfl rfl (wadd (by omega) (by omega)) ?_
   refine x_assign rfl rfl rfl rfl ?_
   refine Ex.done (hK _ _ ?_)
   refine At.blk_n ?_
   exact At.back (j + 1) ⟨rfl, rfl, rfl, rfl, trivial⟩ ⟨by omega, fun z hz => by
    rw [take_mem hy] at hz
    rcases List.mem_append.1 hz with hz | hz
    ·exact hlt z hz
    ·rw [List.mem_singleton.1 hz]; exact hco1, M⟩ (by first | omega | (simp only; omega) | (simp; done) | (simp; omega))
  ·try simp only [sA, sB, sC, sD, sE, sF, sG, sH, sI, sJ, sK, sL, sM, sN, sO] at hco1
   have hW := withR_at hj hlt (fun z hz => by rw [hy] at hz; cases hz; exact hco1)
   refine W.exit ?_
   refine At.then_x ?_
   refine At.loop_x ?_
   refine At.blk_x ?_
   refine At.then_n ?_
   refine W.seq ?_
   refine W.sub [(2, _), (3, _), (4, _), (5, _)] ⟨rfl, rfl, rfl, rfl, trivial⟩ ?_
   refine W.reg [(0, true), (1, false), (2, false), (3, false), (4, false), (5, true), (6, false)] (by kernel_rfl) ?_
   intro K hK
   refine x_bs0 rfl rfl rfl Tryz.underlying24 sz29 ?_
   intro bb wb hbb hwb
   have M := M.acons hbb hwb
   refine ⟨trivial, ?_⟩
   refine x_fa rfl rfl rfl fo31_0 rfl ?_
   refine x_ld rfl rfl rfl Tryz.underlying24 rfl rfl (cell_of (M.at_ 3 rfl) rfl) ?_
   refine x_move rfl rfl rfl rfl ?_
   refine x_slh j rfl rfl rfl Tryz.underlying24 sz29 rfl rfl rfl (by omega) ?_
   refine x_apL (L := [_]) (cs := []) (nn := 0) rfl rfl rfl rfl Tryz.underlying24 sz29 ze29 rfl by29 rfl rfl (.inr ⟨bb, 0, [], _, rfl, rfl, rfl, rfl⟩) M (by simp) ((Sg.take (hfs _ _ M (fun y hy => by simp [hy])) hj).src Tryz.underlying24 (fun u hu => fCs_one hone u (List.mem_of_mem_take hu))) (by omega) (by decide) (by omega) ?_
   intro Lo v6 wv6 how M
   rw [Nat.zero_add, List.nil_append] at how
   have M := M.perm List.perm_append_comm
   rw [fCs_take (by omega)] at how
   have ho1 : ∀ f ∈ fs.take j, f.2.oneCell' = true := fun f hf => hone f (List.mem_of_mem_take hf)
   obtain ⟨p6, c6, rfl⟩ := how.shape
   refine ⟨trivial, ?_⟩
   refine x_assign rfl rfl rfl rfl ?_
   refine Ex.done (hK _ _ ?_)
   refine At.then_n ?_
   refine W.seq ?_
   refine W.sub [(2, _), (3, _), (4, _), (5, _), (6, _)] ⟨rfl, rfl, rfl, rfl, rfl, trivial⟩ ?_
   refine W.reg [(0, false), (1, false), (2, true), (3, true), (4, false)] (by kernel_rfl) ?_
   intro K hK
   refine x_move rfl rfl rfl rfl ?_
   refine x_ldA [_, _, _] rfl rfl rfl Tryz.underlying29 rfl sz29 rfl rfl ⟨_, _, _, (M.at_ 1 rfl), rfl⟩ ?_
   refine x_bs1 (cs := [strV x.1, .bool x.2.1, .slice pd x.2.2.length cd]) rfl rfl rfl Tryz.underlying24 sz29 ze29 (Z := [_, _, _]) rfl rfl (by decide) (by decide) rfl rfl rfl ?_
   intro bbs2 wbs2 hbbs2 hwbs2
   have M0 := M.acons hbbs2 hwbs2
   have hslbs2 : Sl wbs2 (.slice (some ⟨bbs2, 0, none⟩) 1 1) 3 1 [strV x.1, .bool x.2.1, .slice pd x.2.2.length cd] := .inr ⟨bbs2, 0, 1, _, _, _, rfl, by omega, M0.at_ 0 rfl, rfl, rfl⟩
   have M := M0.tail
   refine ⟨trivial, ?_⟩
   refine x_apL rfl rfl rfl rfl Tryz.underlying24 sz29 ze29 rfl by29 rfl rfl how (M.perm List.perm_append_comm) (fCs_one ho1) (hslbs2.src Tryz.underlying24 (by intro u hu; simp at hu; rcases hu with rfl | rfl | rfl <;> rfl)) (by omega) (by decide) (by omega) ?_
   intro Lo v7 wv7 how M
   have M := M.perm List.perm_append_comm
   obtain ⟨p7, c7, rfl⟩ := how.shape
   refine ⟨trivial, ?_⟩
   refine x_assign rfl rfl rfl rfl ?_
   refine Ex.done (hK _ _ ?_)
   refine At.then_n ?_
   refine W.seq ?_
   refine W.sub [(2, _), (4, _), (5, _), (6, _)] ⟨rfl, rfl, rfl, rfl, trivial⟩ ?_
   refine W.reg [(0, false), (1, false), (2, false), (3, false), (4, false), (5, true), (6, false), (7, true)] (by kernel_rfl) ?_
   intro K hK
   refine x_move rfl rfl rfl rfl ?_
   refine x_fa rfl rfl rfl fo31_0 rfl ?_
   refine x_ld rfl rfl rfl Tryz.underlying24 rfl rfl (cell_of (M.at_ 2 rfl) rfl) ?_
   refine x_move rfl rfl rfl rfl ?_
   refine x_sll j rfl rfl rfl Tryz.underlying24 sz29 rfl rfl rfl hj ?_
   refine x_apL rfl rfl rfl rfl Tryz.underlying24 sz29 ze29 rfl by29 rfl rfl how (M.perm List.perm_append_comm) (fun u hu => by
    rcases List.mem_append.1 hu with hu | hu
    ·exact fCs_one ho1 u hu
    ·simp at hu; rcases hu with rfl | rfl | rfl <;> rfl) ((Sg.drop (hfs _ _ M (fun y hy => by simp [hy])) hj).src Tryz.underlying24 (fun u hu => fCs_one hone u (List.mem_of_mem_drop hu))) (by omega) (by decide) (by omega) ?_
   intro Lo v8 wv8 how M
   have M := M.perm List.perm_append_comm
   obtain ⟨p8, c8, rfl⟩ := how.shape
   refine ⟨trivial, ?_⟩
   refine x_build [_] rfl rfl rfl pl31 ze31 rfl rfl rfl ?_
   refine x_st [_] _ rfl rfl rfl sz31 rfl rfl rfl rfl (M.at_ 0 rfl) rfl rfl rfl ?_
   intro wst1 hwst1
   have M := M.put 0 rfl hwst1
   refine ⟨trivial, ?_⟩
   refine Ex.done (hK _ _ ?_)
   refine At.then_n ?_
   refine W.ret ?_
   refine At.ret1 (.cell 4 31) rfl ⟨⟨_, rfl, run_loadVarA (l := [_]) Tryz.underlying31 rfl sz31 ⟨_, _, _, (M.at_ 0 rfl), rfl⟩ (Nat.zero_lt_succ _)⟩, trivial⟩ ?_
   refine ⟨_, Lo, rfl, ?_, ?_⟩
   ·rw [hW]
    refine ⟨fs.take j ++ (x, .slice pd x.2.2.length cd) :: fs.drop j, by rw [List.map_append, List.map_cons, List.map_take, List.map_drop, hfm], ?_, ?_⟩
    ·have e1 : (fs.take j ++ (x, Value.slice pd x.2.2.length cd) :: fs.drop j).length = j + 1 + (l.length - j) := by simp; omega
     have e2 : fCs (fs.take j ++ (x, Value.slice pd x.2.2.length cd) :: fs.drop j) = (fCs (fs.take j) ++ [strV x.1, .bool x.2.1, .slice pd x.2.2.length cd]) ++ (fCs fs).drop (j * 3) := by rw [fCs_drop (by omega), fCs_app]; simp [fCs]
     rw [e1, e2]
     exact SgK.own how (by decide) (fun y hy => List.mem_append_right _ hy)
    ·intro f hf
     rcases List.mem_append.1 hf with hf | hf
     ·exact ⟨(hfd f (List.mem_of_mem_take hf)).1.mono (fun y hy => List.mem_append_left _ hy), hone f (List.mem_of_mem_take hf)⟩
     ·rcases List.mem_cons.1 hf with rfl | hf
      ·exact ⟨hd.mono (fun y hy => List.mem_append_left _ hy), rfl⟩
      ·exact ⟨(hfd f (List.mem_of_mem_drop hf)).1.mono (fun y hy => List.mem_append_left _ hy), hone f (List.mem_of_mem_drop hf)⟩
   ·have M2 : Sep w00 ((L ++ X) ++ Lo) _ := St.tail (St.tail (St.tail M))
    exact M2.perm (by rw [List.append_assoc, List.append_assoc]; exact List.Perm.append_left _ List.perm_append_comm)
 ·
  try simp only [sA, sB, sC, sD, sE, sF, sG, sH, sI, sJ, sK, sL, sM, sN, sO] at hsp1
  have hW := withR_at hj hlt (fun z hz => by have := (List.getElem?_eq_some_iff.1 hz).1; omega)
  refine Ex.skip_ rfl rfl rfl ?_
  refine Ex.skip_ rfl rfl rfl ?_
  refine Ex.skip_ rfl rfl rfl ?_
  refine Ex.skip_ rfl rfl rfl ?_
  refine Ex.skip_ rfl rfl rfl ?_
  refine Ex.skip_ rfl rfl rfl ?_
  refine Ex.skip_ rfl rfl rfl ?_
  refine Ex.skip_ rfl rfl rfl ?_
  refine Ex.skipm_ rfl rfl rfl ?_
  refine Ex.skip_ rfl rfl rfl ?_
  refine x_pickF rfl rfl rfl rfl rfl ?_
  refine Ex.done (hK _ _ ?_)
  refine At.then_n ?_
  refine W.condF rfl ?_
  refine W.exit ?_
  refine At.then_x ?_
  refine At.loop_x ?_
  refine At.blk_x ?_
  refine At.then_n ?_
  refine W.seq ?_
  refine W.sub [(2, _), (3, _), (4, _), (5, _)] ⟨rfl, rfl, rfl, rfl, trivial⟩ ?_
  refine W.reg [(0, true), (1, false), (2, false), (3, false), (4, false), (5, true), (6, false)] (by kernel_rfl) ?_
  intro K hK
  refine x_bs0 rfl rfl rfl Tryz.underlying24 sz29 ?_
  intro bb wb hbb hwb
  have M := M.acons hbb hwb
  refine ⟨trivial, ?_⟩
  refine x_fa rfl rfl rfl fo31_0 rfl ?_
  refine x_ld rfl rfl rfl Tryz.underlying24 rfl rfl (cell_of (M.at_ 3 rfl) rfl) ?_
  refine x_move rfl rfl rfl rfl ?_
  refine x_slh j rfl rfl rfl Tryz.underlying24 sz29 rfl rfl rfl (by omega) ?_
  refine x_apL (L := [_]) (cs := []) (nn := 0) rfl rfl rfl rfl Tryz.underlying24 sz29 ze29 rfl by29 rfl rfl (.inr ⟨bb, 0, [], _, rfl, rfl, rfl, rfl⟩) M (by simp) ((Sg.take (hfs _ _ M (fun y hy => by simp [hy])) hj).src Tryz.underlying24 (fun u hu => fCs_one hone u (List.mem_of_mem_take hu))) (by omega) (by decide) (by omega) ?_
  intro Lo v6 wv6 how M
  rw [Nat.zero_add, List.nil_append] at how
  have M := M.perm List.perm_append_comm
  rw [fCs_take (by omega)] at how
  have ho1 : ∀ f ∈ fs.take j, f.2.oneCell' = true := fun f hf => hone f (List.mem_of_mem_take hf)
  obtain ⟨p6, c6, rfl⟩ := how.shape
  refine ⟨trivial, ?_⟩
  refine x_assign rfl rfl rfl rfl ?_
  refine Ex.done (hK _ _ ?_)
  refine At.then_n ?_
  refine W.seq ?_
  refine W.sub [(2, _), (3, _), (4, _), (5, _), (6, _)] ⟨rfl, rfl, rfl, rfl, rfl, trivial⟩ ?_
  refine W.reg [(0, false), (1, false), (2, true), (3, true), (4, false)] (by kernel_rfl) ?_
  intro K hK
  refine x_move rfl rfl rfl rfl ?_
  refine x_ldA [_, _, _] rfl rfl rfl Tryz.underlying29 rfl sz29 rfl rfl ⟨_, _, _, (M.at_ 1 rfl), rfl⟩ ?_
  refine x_bs1 (cs := [strV x.1, .bool x.2.1, .slice pd x.2.2.length cd]) rfl rfl rfl Tryz.underlying24 sz29 ze29 (Z := [_, _, _]) rfl rfl (by decide) (by decide) rfl rfl rfl ?_
  intro bbs4 wbs4 hbbs4 hwbs4
  have M0 := M.acons hbbs4 hwbs4
  have hslbs4 : Sl wbs4 (.slice (some ⟨bbs4, 0, none⟩) 1 1) 3 1 [strV x.1, .bool x.2.1, .slice pd x.2.2.length cd] := .inr ⟨bbs4, 0, 1, _, _, _, rfl, by omega, M0.at_ 0 rfl, rfl, rfl⟩
  have M := M0.tail
  refine ⟨trivial, ?_⟩
  refine x_apL rfl rfl rfl rfl Tryz.underlying24 sz29 ze29 rfl by29 rfl rfl how (M.perm List.perm_append_comm) (fCs_one ho1) (hslbs4.src Tryz.underlying24 (by intro u hu; simp at hu; rcases hu with rfl | rfl | rfl <;> rfl)) (by omega) (by decide) (by omega) ?_
  intro Lo v7 wv7 how M
  have M := M.perm List.perm_append_comm
  obtain ⟨p7, c7, rfl⟩ := how.shape
  refine ⟨trivial, ?_⟩
  refine x_assign rfl rfl rfl rfl ?_
  refine Ex.done (hK _ _ ?_)
  refine At.then_n ?_
  refine W.seq ?_
  refine W.sub [(2, _), (4, _), (5, _), (6, _)] ⟨rfl, rfl, rfl, rfl, trivial⟩ ?_
  refine W.reg [(0, false), (1, false), (2, false), (3, false), (4, false), (5, true), (6, false), (7, true)] (by kernel_rfl) ?_
  intro K hK
  refine x_move rfl rfl rfl rfl ?_
  refine x_fa rfl rfl rfl fo31_0 rfl ?_
  refine x_ld rfl rfl rfl Tryz.underlying24 rfl rfl (cell_of (M.at_ 2 rfl) rfl) ?_
  refine x_move rfl rfl rfl rfl ?_
  refine x_sll j rfl rfl rfl Tryz.underlying24 sz29 rfl rfl rfl hj ?_
  refine x_apL rfl rfl rfl rfl Tryz.underlying24 sz29 ze29 rfl by29 rfl rfl how (M.perm List.perm_append_comm) (fun u hu => by
   rcases List.mem_append.1 hu with hu | hu
   ·exact fCs_one ho1 u hu
   ·simp at hu; rcases hu with rfl | rfl | rfl <;> rfl) ((Sg.drop (hfs _ _ M (fun y hy => by simp [hy])) hj).src Tryz.underlying24 (fun u hu => fCs_one hone u (List.mem_of_mem_drop hu))) (by omega) (by decide) (by omega) ?_
  intro Lo v8 wv8 how M
  have M := M.perm List.perm_append_comm
  obtain ⟨p8, c8, rfl⟩ := how.shape
  refine ⟨trivial, ?_⟩
  refine x_build [_] rfl rfl rfl pl31 ze31 rfl rfl rfl ?_
  refine x_st [_] _ rfl rfl rfl sz31 rfl rfl rfl rfl (M.at_ 0 rfl) rfl rfl rfl ?_
  intro wst2 hwst2
  have M := M.put 0 rfl hwst2
  refine ⟨trivial, ?_⟩
  refine Ex.done (hK _ _ ?_)
  refine At.then_n ?_
  refine W.ret ?_
  refine At.ret1 (.cell 4 31) rfl ⟨⟨_, rfl, run_loadVarA (l := [_]) Tryz.underlying31 rfl sz31 ⟨_, _, _, (M.at_ 0 rfl), rfl⟩ (Nat.zero_lt_succ _)⟩, trivial⟩ ?_
  refine ⟨_, Lo, rfl, ?_, ?_⟩
  ·rw [hW]
   refine ⟨fs.take j ++ (x, .slice pd x.2.2.length cd) :: fs.drop j, by rw [List.map_append, List.map_cons, List.map_take, List.map_drop, hfm], ?_, ?_⟩
   ·have e1 : (fs.take j ++ (x, Value.slice pd x.2.2.length cd) :: fs.drop j).length = j + 1 + (l.length - j) := by simp; omega
    have e2 : fCs (fs.take j ++ (x, Value.slice pd x.2.2.length cd) :: fs.drop j) = (fCs (fs.take j) ++ [strV x.1, .bool x.2.1, .slice pd x.2.2.length cd]) ++ (fCs fs).drop (j * 3) := by rw [fCs_drop (by omega), fCs_app]; simp [fCs]
    rw [e1, e2]
    exact SgK.own how (by decide) (fun y hy => List.mem_append_right _ hy)
   ·intro f hf
    rcases List.mem_append.1 hf with hf | hf
    ·exact ⟨(hfd f (List.mem_of_mem_take hf)).1.mono (fun y hy => List.mem_append_left _ hy), hone f (List.mem_of_mem_take hf)⟩
    ·rcases List.mem_cons.1 hf with rfl | hf
     ·exact ⟨hd.mono (fun y hy => List.mem_append_left _ hy), rfl⟩
     ·exact ⟨(hfd f (List.mem_of_mem_drop hf)).1.mono (fun y hy => List.mem_append_left _ hy), hone f (List.mem_of_mem_drop hf)⟩
  ·have M2 : Sep w00 ((L ++ X) ++ Lo) _ := St.tail (St.tail (St.tail M))
   exact M2.perm (by rw [List.append_assoc, List.append_assoc]; exact List.Perm.append_left _ List.perm_append_comm)
end Go.Proofs.YtigfbpbnohkokaaGreat

namespace Go.Proofs.YtigfbpbnohkokaaGreat
open Go Go.Fw Go.RowKit Go.Proofs
set_option linter.unusedVariables false
set_option linter.unusedSimpArgs false

set_option maxRecDepth 100000 in
theorem rof_c {w00 w0 : World} {X : List (Nat × Obj)} {v : Value} {l : List Raw} (M : Sep w00 X w0) (h : FilesAt w00 v l) (hl : l.length ≤ 200) : Ret Tryz.prog 12 #[v] w0 fun r w' => ∃ u Lr, r = .tuple #[.agg #[u], .int .i64 (ofL l).2] ∧ FilesK w00 Lr u (ofL l).1 ∧ Sep w00 (Lr ++ X) w' := by
 obtain ⟨pv, cv, rfl⟩ := h.shape
 refine Ret.of_W Tryz.func12 rfl Tryz.ntmps12 rfl ?_
 refine W.seq ?_
 refine W.sub [(0, _)] ⟨rfl, trivial⟩ ?_
 refine W.reg [(0, true), (1, false)] (by kernel_rfl) ?_
 intro K hK
 refine x_alloc [_] rfl rfl rfl ze31 rfl ?_
 intro bal1 wal1 hbal1 hwal1
 have M := M.acons hbal1 hwal1
 refine ⟨trivial, ?_⟩
 refine x_assign rfl rfl rfl rfl ?_
 refine Ex.done (hK _ _ ?_)
 refine At.then_n ?_
 refine W.seq ?_
 refine W.sub [(0, _), (2, _)] ⟨rfl, rfl, trivial⟩ ?_
 refine W.reg [(0, false), (1, true), (2, true)] (by kernel_rfl) ?_
 intro K hK
 refine x_build [_] rfl rfl rfl pl31 ze31 rfl rfl rfl ?_
 refine x_alloc [_] rfl rfl rfl ze31 rfl ?_
 intro bal2 wal2 hbal2 hwal2
 have M := M.acons hbal2 hwal2
 refine ⟨trivial, ?_⟩
 refine x_st [_] _ rfl rfl rfl sz31 rfl rfl rfl rfl (M.at_ 0 rfl) rfl rfl rfl ?_
 intro wst1 hwst1
 have M := M.put 0 rfl hwst1
 refine ⟨trivial, ?_⟩
 refine Ex.done (hK _ _ ?_)
 refine At.then_n ?_
 refine W.seq ?_
 refine W.seq ?_
 refine W.sub [(0, _), (2, _), (4, _)] ⟨rfl, rfl, rfl, trivial⟩ ?_
 refine W.reg [(0, false)] (by kernel_rfl) ?_
 intro K hK
 refine x_assign rfl rfl rfl rfl ?_
 refine Ex.done (hK _ _ ?_)
 refine At.then_n ?_
 refine W.block ?_
 refine W.loop (σ := Nat) (fun j => [(0, _), (2, _), (4, _), (5, .int .i64 ((j : Nat) : Int))]) (fun j w => j ≤ l.length ∧ (∀ x ∈ l.take j, singleR x = 0) ∧ Sep w00 ([(bal2, .cells [.slice none 0 0].toArray 31 (0, 0)), (bal1, .cells [.slice none 0 0].toArray 31 (0, 0))] ++ X) w) (fun j => l.length - j) 0 ⟨rfl, rfl, rfl, rfl, trivial⟩ ⟨Nat.zero_le _, by simp, M⟩ ?_
 rintro j w ⟨hj, hok, M⟩
 refine W.seq ?_
 refine W.seq ?_
 refine W.sub [(0, _), (2, _), (4, _), (5, _)] ⟨rfl, rfl, rfl, rfl, trivial⟩ ?_
 refine W.reg [(0, false), (1, false), (2, false), (3, false)] (by kernel_rfl) ?_
 intro K hK
 refine x_move rfl rfl rfl rfl ?_
 refine x_move rfl rfl rfl rfl ?_
 refine x_len rfl rfl rfl rfl Tryz.underlying24 rfl ?_
 refine x_lss _ rfl rfl rfl rfl rfl rfl ?_
 refine Ex.done (hK _ _ ?_)
 refine At.then_n ?_
 refine W.cond rfl (fun hco1 => ?_) (fun hco1 => ?_)
 ·try simp only [sA, sB, sC, sD, sE, sF, sG, sH, sI, sJ, sK, sL, sM, sN, sO] at hco1
  obtain ⟨x, hx⟩ := get_lt (l := l) (q := j) (by omega)
  obtain ⟨bb, off, rfl, _⟩ := (h.new M.frm).blk (j := j) (by omega)
  obtain ⟨pd, cd, hrow, _⟩ := (h.new M.frm).row hx
  refine W.skip ?_
  refine At.then_n ?_
  refine W.seq ?_
  refine W.block ?_
  refine W.seq ?_
  refine W.sub [(0, _), (2, _), (4, _), (5, _)] ⟨rfl, rfl, rfl, rfl, trivial⟩ ?_
  refine W.reg [(0, false), (1, false), (2, false), (3, false), (4, false), (5, true), (6, false), (7, false), (8, false), (9, false), (10, false)] (by kernel_rfl) ?_
  intro K hK
  refine x_move rfl rfl rfl rfl ?_
  refine x_move rfl rfl rfl rfl ?_
  refine x_ia j rfl rfl rfl Tryz.underlying24 sz29 rfl rfl rfl (by omega) ?_
  refine x_fa rfl rfl rfl fo29_0 rfl ?_
  refine x_ld rfl rfl rfl Tryz.underlying9 rfl rfl (RowAt.cell hrow (j := 0) rfl) ?_
  refine x_call rfl rfl rfl rfl rfl en31 (rsplit_c) ?_
  rintro r_ w1 ⟨v1, L1, rfl, M1, hs1⟩
  have M := M.grow M1
  have hrow := RowAt.new hrow M1.frm
  obtain ⟨p1, c1, rfl, hcap1⟩ := hs1.shape2 (by decide)
  refine ⟨trivial, ?_⟩
  refine x_move rfl rfl rfl rfl ?_
  refine x_ext rfl rfl rfl rfl rfl ?_
  refine x_ext rfl rfl rfl rfl rfl ?_
  refine x_assign rfl rfl rfl rfl ?_
  refine x_assign rfl rfl rfl rfl ?_
  refine Ex.done (hK _ _ ?_)
  refine At.then_n ?_
  refine W.seq ?_
  refine W.seq ?_
  refine W.sub [(0, _), (2, _), (4, _), (5, _), (6, _), (7, _)] ⟨rfl, rfl, rfl, rfl, rfl, rfl, trivial⟩ ?_
  refine W.reg [(0, false), (1, false), (2, false), (3, false), (4, false), (5, false), (6, false)] (by kernel_rfl) ?_
  intro K hK
  refine x_move rfl rfl rfl rfl ?_
  refine x_nei _ rfl rfl rfl rfl rfl rfl ?_
  refine x_move rfl rfl rfl rfl ?_
  refine Ex.split 33 rfl (fun hsp1 => ?_) (fun hsp1 => ?_)
  ·
   try simp only [sA, sB, sC, sD, sE, sF, sG, sH, sI, sJ, sK, sL, sM, sN, sO] at hsp1
   refine Ex.skip_ rfl rfl rfl ?_
   refine Ex.skip_ rfl rfl rfl ?_
   refine Ex.skip_ rfl rfl rfl ?_
   refine x_pickT rfl rfl rfl rfl rfl ?_
   refine Ex.done (hK _ _ ?_)
   refine At.then_n ?_
   refine W.condT rfl ?_
   refine W.seq ?_
   refine W.sub [(2, _)] ⟨rfl, trivial⟩ ?_
   refine W.reg [(0, false), (1, true), (2, false)] (by kernel_rfl) ?_
   intro K hK
   refine x_build [_] rfl rfl rfl pl31 ze31 rfl rfl rfl ?_
   refine x_st [_] _ rfl rfl rfl sz31 rfl rfl rfl rfl (M.at_ 1 rfl) rfl rfl rfl ?_
   intro wst2 hwst2
   have M := M.put 1 rfl hwst2
   refine ⟨trivial, ?_⟩
   refine x_assign rfl rfl rfl rfl ?_
   refine Ex.done (hK _ _ ?_)
   refine At.then_n ?_
   refine W.ret ?_
   refine At.then_r ?_
   refine At.blk_r ?_
   refine At.then_r ?_
   refine At.loop_r ?_
   refine At.blk_r ?_
   refine At.then_r ?_
   refine At.ret2 (.cell 2 31) (.tmp 3) rfl ⟨⟨_, rfl, run_loadVarA (l := [_]) Tryz.underlying31 rfl sz31 ⟨_, _, _, (M.at_ 1 rfl), rfl⟩ (Nat.zero_lt_succ _)⟩, rfl, trivial⟩ ?_
   have hR := ofL_at hx hok (show singleR x = 8 by unfold singleR; rw [if_neg (fun e => hsp1 e.1)]) (by decide)
   rw [hR]; exact ⟨_, [], rfl, nilK, St.dropL (L' := [_, _]) M.dropR⟩
  ·
   try simp only [sA, sB, sC, sD, sE, sF, sG, sH, sI, sJ, sK, sL, sM, sN, sO] at hsp1
   refine x_move rfl rfl rfl rfl ?_
   refine x_len rfl rfl rfl rfl Tryz.underlying47 rfl ?_
   refine x_eqi _ rfl rfl rfl rfl rfl rfl ?_
   refine x_pickF rfl rfl rfl rfl rfl ?_
   refine Ex.done (hK _ _ ?_)
   refine At.then_n ?_
   refine W.cond rfl (fun hco3 => ?_) (fun hco3 => ?_)
   ·try simp only [sA, sB, sC, sD, sE, sF, sG, sH, sI, sJ, sK, sL, sM, sN, sO] at hco3
    refine W.seq ?_
    refine W.sub [(2, _)] ⟨rfl, trivial⟩ ?_
    refine W.reg [(0, false), (1, true), (2, false)] (by kernel_rfl) ?_
    intro K hK
    refine x_build [_] rfl rfl rfl pl31 ze31 rfl rfl rfl ?_
    refine x_st [_] _ rfl rfl rfl sz31 rfl rfl rfl rfl (M.at_ 1 rfl) rfl rfl rfl ?_
    intro wst3 hwst3
    have M := M.put 1 rfl hwst3
    refine ⟨trivial, ?_⟩
    refine x_assign rfl rfl rfl rfl ?_
    refine Ex.done (hK _ _ ?_)
    refine At.then_n ?_
    refine W.ret ?_
    refine At.then_r ?_
    refine At.blk_r ?_
    refine At.then_r ?_
    refine At.loop_r ?_
    refine At.blk_r ?_
    refine At.then_r ?_
    refine At.ret2 (.cell 2 31) (.tmp 3) rfl ⟨⟨_, rfl, run_loadVarA (l := [_]) Tryz.underlying31 rfl sz31 ⟨_, _, _, (M.at_ 1 rfl), rfl⟩ (Nat.zero_lt_succ _)⟩, rfl, trivial⟩ ?_
    have hR := ofL_at hx hok (show singleR x = 8 by unfold singleR; rw [if_neg (fun e => e.2 (List.length_eq_zero_iff.1 (by omega)))]) (by decide)
    rw [hR]; exact ⟨_, [], rfl, nilK, St.dropL (L' := [_, _]) M.dropR⟩
   ·try simp only [sA, sB, sC, sD, sE, sF, sG, sH, sI, sJ, sK, sL, sM, sN, sO] at hco3
    have hn0 : splitN x.1 ≠ [] := fun e => hco3 (by rw [e]; rfl)
    refine W.skip ?_
    refine At.then_n ?_
    refine W.seq ?_
    refine W.seq ?_
    refine W.sub [(0, _), (2, _), (4, _), (5, _)] ⟨rfl, rfl, rfl, rfl, trivial⟩ ?_
    refine W.reg [(0, false), (1, false), (2, false), (3, false), (4, false), (5, false), (6, false), (7, false), (8, false), (9, false), (10, false), (11, false), (12, false), (13, false)] (by kernel_rfl) ?_
    intro K hK
    refine x_move rfl rfl rfl rfl ?_
    refine x_move rfl rfl rfl rfl ?_
    refine x_ia j rfl rfl rfl Tryz.underlying24 sz29 rfl rfl rfl (by omega) ?_
    refine x_fa rfl rfl rfl fo29_1 rfl ?_
    refine x_ld rfl rfl rfl Tryz.underlying4 rfl rfl (RowAt.cell hrow (j := 1) rfl) ?_
    refine x_move rfl rfl rfl rfl ?_
    refine Ex.split 44 rfl (fun hsp2 => ?_) (fun hsp2 => ?_)
    ·
     try simp only [sA, sB, sC, sD, sE, sF, sG, sH, sI, sJ, sK, sL, sM, sN, sO] at hsp2
     refine x_move rfl rfl rfl rfl ?_
     refine x_move rfl rfl rfl rfl ?_
     refine x_ia j rfl rfl rfl Tryz.underlying24 sz29 rfl rfl rfl (by omega) ?_
     refine x_fa rfl rfl rfl fo29_2 rfl ?_
     refine x_ld rfl rfl rfl Tryz.underlying27 rfl rfl (RowAt.cell hrow (j := 2) rfl) ?_
     refine x_len rfl rfl rfl rfl Tryz.underlying27 rfl ?_
     refine x_gtr _ rfl rfl rfl rfl rfl rfl ?_
     refine x_pickT rfl rfl rfl rfl rfl ?_
     refine Ex.done (hK _ _ ?_)
     refine At.then_n ?_
     refine W.cond rfl (fun hco4 => ?_) (fun hco4 => ?_)
     ·try simp only [sA, sB, sC, sD, sE, sF, sG, sH, sI, sJ, sK, sL, sM, sN, sO] at hco4
      refine W.seq ?_
      refine W.sub [(2, _)] ⟨rfl, trivial⟩ ?_
      refine W.reg [(0, false), (1, true), (2, false)] (by kernel_rfl) ?_
      intro K hK
      refine x_build [_] rfl rfl rfl pl31 ze31 rfl rfl rfl ?_
      refine x_st [_] _ rfl rfl rfl sz31 rfl rfl rfl rfl (M.at_ 1 rfl) rfl rfl rfl ?_
      intro wst4 hwst4
      have M := M.put 1 rfl hwst4
      refine ⟨trivial, ?_⟩
      refine x_assign rfl rfl rfl rfl ?_
      refine Ex.done (hK _ _ ?_)
      refine At.then_n ?_
      refine W.ret ?_
      refine At.then_r ?_
      refine At.blk_r ?_
      refine At.then_r ?_
      refine At.loop_r ?_
      refine At.blk_r ?_
      refine At.then_r ?_
      refine At.ret2 (.cell 2 31) (.tmp 3) rfl ⟨⟨_, rfl, run_loadVarA (l := [_]) Tryz.underlying31 rfl sz31 ⟨_, _, _, (M.at_ 1 rfl), rfl⟩ (Nat.zero_lt_succ _)⟩, rfl, trivial⟩ ?_
      have hR := ofL_at hx hok (show singleR x = 16 by unfold singleR; rw [if_pos ⟨hsp1, hn0⟩, if_pos ⟨hsp2, fun e => by rw [e] at hco4; simp at hco4⟩]) (by decide)
      rw [hR]; exact ⟨_, [], rfl, nilK, St.dropL (L' := [_, _]) M.dropR⟩
     ·try simp only [sA, sB, sC, sD, sE, sF, sG, sH, sI, sJ, sK, sL, sM, sN, sO] at hco4
      have hd0 : x.2.2 = [] := List.length_eq_zero_iff.1 (by omega)
      refine W.skip ?_
      refine At.then_n ?_
      refine W.seq ?_
      refine W.sub [(0, _), (2, _), (4, _), (5, _)] ⟨rfl, rfl, rfl, rfl, trivial⟩ ?_
      refine W.reg [(0, false), (1, false), (2, false), (3, false), (4, false), (5, false), (6, false)] (by kernel_rfl) ?_
      intro K hK
      refine x_move rfl rfl rfl rfl ?_
      refine x_move rfl rfl rfl rfl ?_
      refine x_ia j rfl rfl rfl Tryz.underlying24 sz29 rfl rfl rfl (by omega) ?_
      refine x_fa rfl rfl rfl fo29_2 rfl ?_
      refine x_ld rfl rfl rfl Tryz.underlying27 rfl rfl (RowAt.cell hrow (j := 2) rfl) ?_
      refine x_len rfl rfl rfl rfl Tryz.underlying27 rfl ?_
      refine x_gtr _ rfl rfl rfl rfl rfl rfl ?_
      refine Ex.done (hK _ _ ?_)
      refine At.then_n ?_
      refine W.cond rfl (fun hco5 => ?_) (fun hco5 => ?_)
      ·try simp only [sA, sB, sC, sD, sE, sF, sG, sH, sI, sJ, sK, sL, sM, sN, sO] at hco5
       refine W.seq ?_
       refine W.sub [(2, _)] ⟨rfl, trivial⟩ ?_
       refine W.reg [(0, false), (1, true), (2, false)] (by kernel_rfl) ?_
       intro K hK
       refine x_build [_] rfl rfl rfl pl31 ze31 rfl rfl rfl ?_
       refine x_st [_] _ rfl rfl rfl sz31 rfl rfl rfl rfl (M.at_ 1 rfl) rfl rfl rfl ?_
       intro wst5 hwst5
       have M := M.put 1 rfl hwst5
       refine ⟨trivial, ?_⟩
       refine x_assign rfl rfl rfl rfl ?_
       refine Ex.done (hK _ _ ?_)
       refine At.then_n ?_
       refine W.ret ?_
       refine At.blk_r ?_
       refine At.then_r ?_
       refine At.loop_r ?_
       refine At.blk_r ?_
       refine At.then_r ?_
       refine At.ret2 (.cell 2 31) (.tmp 3) rfl ⟨⟨_, rfl, run_loadVarA (l := [_]) Tryz.underlying31 rfl sz31 ⟨_, _, _, (M.at_ 1 rfl), rfl⟩ (Nat.zero_lt_succ _)⟩, rfl, trivial⟩ ?_
       have hR := ofL_at hx hok (show singleR x = 3 by unfold singleR; rw [if_pos ⟨hsp1, hn0⟩, if_neg (fun e => e.2 hd0), if_pos (by omega)]) (by decide)
       rw [hR]; exact ⟨_, [], rfl, nilK, St.dropL (L' := [_, _]) M.dropR⟩
      ·try simp only [sA, sB, sC, sD, sE, sF, sG, sH, sI, sJ, sK, sL, sM, sN, sO] at hco5
       have hsg : singleR x = 0 := by unfold singleR; rw [if_pos ⟨hsp1, hn0⟩, if_neg (fun e => e.2 hd0), if_neg (by omega)]
       refine W.skip ?_
       refine At.blk_n ?_
       refine At.then_n ?_
       refine W.sub [(0, _), (2, _), (4, _), (5, _)] ⟨rfl, rfl, rfl, rfl, trivial⟩ ?_
       refine W.reg [(0, false), (1, false), (2, false)] (by kernel_rfl) ?_
       intro K hK
       refine x_move rfl rfl rfl rfl ?_
       refine x_add _ rfl rfl rfl rfl rfl (wadd (by omega) (by omega)) ?_
       refine x_assign rfl rfl rfl rfl ?_
       refine Ex.done (hK _ _ ?_)
       exact At.back (j + 1) ⟨rfl, rfl, rfl, rfl, trivial⟩ ⟨by omega, fun z hz => by
        rw [take_mem hx] at hz
        rcases List.mem_append.1 hz with hz | hz
        ·exact hok z hz
        ·rw [List.mem_singleton.1 hz]; exact hsg, M.dropR⟩ (by first | omega | (simp only; omega) | (simp; done) | (simp; omega))
    ·
     try simp only [sA, sB, sC, sD, sE, sF, sG, sH, sI, sJ, sK, sL, sM, sN, sO] at hsp2
     refine Ex.skip_ rfl rfl rfl ?_
     refine Ex.skip_ rfl rfl rfl ?_
     refine Ex.skip_ rfl rfl rfl ?_
     refine Ex.skip_ rfl rfl rfl ?_
     refine Ex.skip_ rfl rfl rfl ?_
     refine Ex.skip_ rfl rfl rfl ?_
     refine Ex.skip_ rfl rfl rfl ?_
     refine x_pickF rfl rfl rfl rfl rfl ?_
     refine Ex.done (hK _ _ ?_)
     refine At.then_n ?_
     refine W.condF rfl ?_
     refine W.skip ?_
     refine At.then_n ?_
     refine W.seq ?_
     refine W.sub [(0, _), (2, _), (4, _), (5, _)] ⟨rfl, rfl, rfl, rfl, trivial⟩ ?_
     refine W.reg [(0, false), (1, false), (2, false), (3, false), (4, false), (5, false), (6, false)] (by kernel_rfl) ?_
     intro K hK
     refine x_move rfl rfl rfl rfl ?_
     refine x_move rfl rfl rfl rfl ?_
     refine x_ia j rfl rfl rfl Tryz.underlying24 sz29 rfl rfl rfl (by omega) ?_
     refine x_fa rfl rfl rfl fo29_2 rfl ?_
     refine x_ld rfl rfl rfl Tryz.underlying27 rfl rfl (RowAt.cell hrow (j := 2) rfl) ?_
     refine x_len rfl rfl rfl rfl Tryz.underlying27 rfl ?_
     refine x_gtr _ rfl rfl rfl rfl rfl rfl ?_
     refine Ex.done (hK _ _ ?_)
     refine At.then_n ?_
     refine W.cond rfl (fun hco7 => ?_) (fun hco7 => ?_)
     ·try simp only [sA, sB, sC, sD, sE, sF, sG, sH, sI, sJ, sK, sL, sM, sN, sO] at hco7
      refine W.seq ?_
      refine W.sub [(2, _)] ⟨rfl, trivial⟩ ?_
      refine W.reg [(0, false), (1, true), (2, false)] (by kernel_rfl) ?_
      intro K hK
      refine x_build [_] rfl rfl rfl pl31 ze31 rfl rfl rfl ?_
      refine x_st [_] _ rfl rfl rfl sz31 rfl rfl rfl rfl (M.at_ 1 rfl) rfl rfl rfl ?_
      intro wst6 hwst6
      have M := M.put 1 rfl hwst6
      refine ⟨trivial, ?_⟩
      refine x_assign rfl rfl rfl rfl ?_
      refine Ex.done (hK _ _ ?_)
      refine At.then_n ?_
      refine W.ret ?_
      refine At.blk_r ?_
      refine At.then_r ?_
      refine At.loop_r ?_
      refine At.blk_r ?_
      refine At.then_r ?_
      refine At.ret2 (.cell 2 31) (.tmp 3) rfl ⟨⟨_, rfl, run_loadVarA (l := [_]) Tryz.underlying31 rfl sz31 ⟨_, _, _, (M.at_ 1 rfl), rfl⟩ (Nat.zero_lt_succ _)⟩, rfl, trivial⟩ ?_
      have hR := ofL_at hx hok (show singleR x = 3 by unfold singleR; rw [if_pos ⟨hsp1, hn0⟩, if_neg (fun e => by have := e.1; rw [hsp2] at this; cases this), if_pos (by omega)]) (by decide)
      rw [hR]; exact ⟨_, [], rfl, nilK, St.dropL (L' := [_, _]) M.dropR⟩
     ·try simp only [sA, sB, sC, sD, sE, sF, sG, sH, sI, sJ, sK, sL, sM, sN, sO] at hco7
      have hsg : singleR x = 0 := by unfold singleR; rw [if_pos ⟨hsp1, hn0⟩, if_neg (fun e => by have := e.1; rw [hsp2] at this; cases this), if_neg (by omega)]
      refine W.skip ?_
      refine At.blk_n ?_
      refine At.then_n ?_
      refine W.sub [(0, _), (2, _), (4, _), (5, _)] ⟨rfl, rfl, rfl, rfl, trivial⟩ ?_
      refine W.reg [(0, false), (1, false), (2, false)] (by kernel_rfl) ?_
      intro K hK
      refine x_move rfl rfl rfl rfl ?_
      refine x_add _ rfl rfl rfl rfl rfl (wadd (by omega) (by omega)) ?_
      refine x_assign rfl rfl rfl rfl ?_
      refine Ex.done (hK _ _ ?_)
      exact At.back (j + 1) ⟨rfl, rfl, rfl, rfl, trivial⟩ ⟨by omega, fun z hz => by
       rw [take_mem hx] at hz
       rcases List.mem_append.1 hz with hz | hz
       ·exact hok z hz
       ·rw [List.mem_singleton.1 hz]; exact hsg, M.dropR⟩ (by first | omega | (simp only; omega) | (simp; done) | (simp; omega))
 ·try simp only [sA, sB, sC, sD, sE, sF, sG, sH, sI, sJ, sK, sL, sM, sN, sO] at hco1
  have hj2 : j = l.length := by omega
  subst hj2
  rw [List.take_length] at hok
  have hf := firstR_ok hok
  have hnm : ∀ y ∈ l, y.1.length ≤ 2000 := fun y hy => by have := splitE_len (single_ok (hok y hy)).1; omega
  have M : Sep w00 ([(bal2, .cells [.slice none 0 0].toArray 31 (0, 0)), (bal1, .cells [.slice none 0 0].toArray 31 (0, 0))] ++ ([] ++ X)) w := by simpa using M
  refine W.exit ?_
  refine At.then_x ?_
  refine At.loop_x ?_
  refine At.blk_x ?_
  refine At.then_n ?_
  refine W.seq ?_
  refine W.seq ?_
  refine W.sub [(0, _), (2, _), (4, _)] ⟨rfl, rfl, rfl, trivial⟩ ?_
  refine W.reg [(0, false)] (by kernel_rfl) ?_
  intro K hK
  refine x_assign rfl rfl rfl rfl ?_
  refine Ex.done (hK _ _ ?_)
  refine At.then_n ?_
  refine W.block ?_
  refine W.loop (σ := Nat × Value × List (Nat × Obj)) (fun q => [(0, _), (2, _), (4, _), (8, .int .i64 ((q.1 : Nat) : Int))]) (fun q w => q.1 ≤ l.length ∧ ((l.take q.1).map (·.1)).Nodup ∧ FilesK w00 q.2.2 q.2.1 ((l.take q.1).foldl withR []) ∧ Sep w00 ([(bal2, .cells [q.2.1].toArray 31 (0, 0)), (bal1, .cells [.slice none 0 0].toArray 31 (0, 0))] ++ (q.2.2 ++ X)) w) (fun q => l.length - q.1) (0, .slice none 0 0, []) ⟨rfl, rfl, rfl, rfl, trivial⟩ ⟨Nat.zero_le _, by simp, nilK, M⟩ ?_
  rintro ⟨i, u, L2⟩ w ⟨hi, hnd, hu, M⟩
  simp only at hi hnd hu M
  obtain ⟨pu, cu, rfl⟩ := (hu.at_ M (fun y hy => List.mem_append_right _ (List.mem_append_left _ hy))).shape
  have hflen : ((l.take i).foldl withR []).length = i := by rw [fold_len, List.length_take]; omega
  refine W.seq ?_
  refine W.seq ?_
  refine W.sub [(0, _), (2, _), (4, _), (8, _)] ⟨rfl, rfl, rfl, rfl, trivial⟩ ?_
  refine W.reg [(0, false), (1, false), (2, false), (3, false)] (by kernel_rfl) ?_
  intro K hK
  refine x_move rfl rfl rfl rfl ?_
  refine x_move rfl rfl rfl rfl ?_
  refine x_len rfl rfl rfl rfl Tryz.underlying24 rfl ?_
  refine x_lss _ rfl rfl rfl rfl rfl rfl ?_
  refine Ex.done (hK _ _ ?_)
  refine At.then_n ?_
  refine W.cond rfl (fun hco8 => ?_) (fun hco8 => ?_)
  ·try simp only [sA, sB, sC, sD, sE, sF, sG, sH, sI, sJ, sK, sL, sM, sN, sO] at hco8
   obtain ⟨x, hx⟩ := get_lt (l := l) (q := i) (by omega)
   obtain ⟨bb, off, rfl, _⟩ := h.blk (j := i) (by omega)
   obtain ⟨pd, cd, hrow0, hbd⟩ := h.row hx
   refine W.skip ?_
   refine At.then_n ?_
   refine W.seq ?_
   refine W.block ?_
   refine W.seq ?_
   refine W.seq ?_
   refine W.sub [(0, _), (2, _), (4, _), (8, _)] ⟨rfl, rfl, rfl, rfl, trivial⟩ ?_
   refine W.regD (by kernel_rfl) #[0, 0, 0, 6, 14, 30, 63, 127] [(0, false), (1, false), (2, false), (3, false), (4, false), (5, false), (6, true), (7, false)] (by kernel_rfl) ?_
   intro K wD1 hK hwD1
   have M := M.drew hwD1
   have hrow := RowAt.new hrow0 M.frm
   refine x_ldA [_] rfl rfl rfl Tryz.underlying31 rfl sz31 rfl rfl ⟨_, _, _, (M.at_ 0 rfl), rfl⟩ ?_
   refine x_move rfl rfl rfl rfl ?_
   refine x_move rfl rfl rfl rfl ?_
   refine x_ia i rfl rfl rfl Tryz.underlying24 sz29 rfl rfl rfl (by omega) ?_
   refine x_fa rfl rfl rfl fo29_0 rfl ?_
   refine x_ld rfl rfl rfl Tryz.underlying9 rfl rfl (RowAt.cell hrow (j := 0) rfl) ?_
   refine x_call rfl rfl rfl rfl rfl en32 (at_c (hu.at_ M (fun y hy => List.mem_append_right _ (List.mem_append_left _ hy))) (by omega)) ?_
   rintro r_ w2 ⟨rfl, hn2⟩
   have M := M.new hn2
   have hac := atR_cases ((l.take i).foldl withR []) x.1
   refine ⟨⟨.inl (by kernel_rfl), .inl (by kernel_rfl), trivial⟩, ?_⟩
   refine x_geq _ rfl rfl rfl rfl rfl rfl ?_
   refine Ex.done (hK _ _ ?_)
   refine At.then_n ?_
   refine W.cond rfl (fun hco9 => ?_) (fun hco9 => ?_)
   ·try simp only [sA, sB, sC, sD, sE, sF, sG, sH, sI, sJ, sK, sL, sM, sN, sO] at hco9
    refine W.seq ?_
    refine W.sub [(2, _)] ⟨rfl, trivial⟩ ?_
    refine W.reg [(0, false), (1, true), (2, false)] (by kernel_rfl) ?_
    intro K hK
    refine x_build [_] rfl rfl rfl pl31 ze31 rfl rfl rfl ?_
    refine x_st [_] _ rfl rfl rfl sz31 rfl rfl rfl rfl (M.at_ 1 rfl) rfl rfl rfl ?_
    intro wst7 hwst7
    have M := M.put 1 rfl hwst7
    refine ⟨trivial, ?_⟩
    refine x_assign rfl rfl rfl rfl ?_
    refine Ex.done (hK _ _ ?_)
    refine At.then_n ?_
    refine W.ret ?_
    refine At.then_r ?_
    refine At.blk_r ?_
    refine At.then_r ?_
    refine At.loop_r ?_
    refine At.blk_r ?_
    refine At.then_r ?_
    refine At.ret2 (.cell 2 31) (.tmp 3) rfl ⟨⟨_, rfl, run_loadVarA (l := [_]) Tryz.underlying31 rfl sz31 ⟨_, _, _, (M.at_ 1 rfl), rfl⟩ (Nat.zero_lt_succ _)⟩, rfl, trivial⟩ ?_
    have hdup : ¬ (l.map (·.1)).Nodup := by
     rcases hac with ⟨k, y, a1, a2, _⟩ | ⟨_, a2⟩
     ·exact dup_step hx ⟨y, fold_mem.1 (List.mem_of_getElem? a1), a2⟩
     ·omega
    have hR := ofL_2 hf hdup
    rw [hR]; exact ⟨_, [], rfl, nilK, St.dropL (St.dropL (L' := [_, _]) M)⟩
   ·try simp only [sA, sB, sC, sD, sE, sF, sG, sH, sI, sJ, sK, sL, sM, sN, sO] at hco9
    have hno : ∀ y ∈ l.take i, y.1 ≠ x.1 := by
     rcases hac with ⟨k, y, a1, a2, a3, _⟩ | ⟨a1, _⟩
     ·omega
     ·exact fun y hy => a1 y (fold_mem.2 hy)
    refine W.skip ?_
    refine At.then_n ?_
    refine W.sub [(0, _), (2, _), (4, _), (8, _)] ⟨rfl, rfl, rfl, rfl, trivial⟩ ?_
    refine W.regD (by kernel_rfl) #[0, 0, 0, 6, 14, 31, 63] [(0, false), (1, false), (2, false), (3, false), (4, false), (5, true), (6, true)] (by kernel_rfl) ?_
    intro K wD2 hK hwD2
    have M := M.drew hwD2
    have hrow := RowAt.new hrow0 M.frm
    refine x_ldA [_] rfl rfl rfl Tryz.underlying31 rfl sz31 rfl rfl ⟨_, _, _, (M.at_ 0 rfl), rfl⟩ ?_
    refine x_move rfl rfl rfl rfl ?_
    refine x_move rfl rfl rfl rfl ?_
    refine x_ia i rfl rfl rfl Tryz.underlying24 sz29 rfl rfl rfl (by omega) ?_
    refine x_ldA [_, _, _] rfl rfl rfl Tryz.underlying29 rfl sz29 rfl rfl hrow ?_
    refine x_call rfl rfl rfl rfl rfl en33 (with_c (x := x) (St.inn2 (F := [_, _]) M) hu (SgK.old hbd) (by omega) (fun y hy => hnm y (List.mem_of_mem_take (fold_mem.1 hy))) (hnm x (List.mem_of_getElem? hx))) ?_
    rintro r_ w3 ⟨u2, L3, rfl, hu2, M⟩
    have M := M.out2 [_, _]
    obtain ⟨pu2, cu2, rfl⟩ := (hu2.at_ M (fun y hy => List.mem_append_right _ (List.mem_append_left _ hy))).shape
    refine ⟨⟨.inl (by kernel_rfl), .inl (by kernel_rfl), trivial⟩, ?_⟩
    refine x_st [_] _ rfl rfl rfl sz31 rfl rfl rfl rfl (M.at_ 0 rfl) rfl rfl rfl ?_
    intro wst8 hwst8
    have M := M.put 0 rfl hwst8
    refine ⟨⟨.inl (by kernel_rfl), .inl (by kernel_rfl), trivial⟩, ?_⟩
    refine Ex.done (hK _ _ ?_)
    refine At.blk_n ?_
    refine At.then_n ?_
    refine W.sub [(0, _), (2, _), (4, _), (8, _)] ⟨rfl, rfl, rfl, rfl, trivial⟩ ?_
    refine W.reg [(0, false), (1, false), (2, false)] (by kernel_rfl) ?_
    intro K hK
    refine x_move rfl rfl rfl rfl ?_
    refine x_add _ rfl rfl rfl rfl rfl (wadd (by omega) (by omega)) ?_
    refine x_assign rfl rfl rfl rfl ?_
    refine Ex.done (hK _ _ ?_)
    exact At.back ((i + 1, _, L2 ++ L3)) ⟨rfl, rfl, rfl, rfl, trivial⟩ ⟨by omega, nodup_step hnd hx hno, by simp only; rw [take_mem hx, List.foldl_append]; exact hu2, M⟩ (by first | omega | (simp only; omega) | (simp; done) | (simp; omega))
  ·try simp only [sA, sB, sC, sD, sE, sF, sG, sH, sI, sJ, sK, sL, sM, sN, sO] at hco8
   have hi2 : i = l.length := by omega
   subst hi2
   rw [List.take_length] at hnd hu M hflen
   refine W.exit ?_
   refine At.then_x ?_
   refine At.loop_x ?_
   refine At.blk_x ?_
   refine At.then_n ?_
   refine W.seq ?_
   refine W.seq ?_
   refine W.sub [(0, _), (2, _), (4, _)] ⟨rfl, rfl, rfl, trivial⟩ ?_
   refine W.reg [(0, false)] (by kernel_rfl) ?_
   intro K hK
   refine x_assign rfl rfl rfl rfl ?_
   refine Ex.done (hK _ _ ?_)
   refine At.then_n ?_
   refine W.block ?_
   refine W.loop (σ := Nat) (fun a => [(0, _), (2, _), (4, _), (9, .int .i64 ((a : Nat) : Int))]) (fun a w => a ≤ l.length ∧ (∀ i < a, ∀ k, ¬ BadAt l i k) ∧ Sep w00 ([(bal2, .cells [.slice pu (l.foldl withR []).length cu].toArray 31 (0, 0)), (bal1, .cells [.slice none 0 0].toArray 31 (0, 0))] ++ (L2 ++ X)) w) (fun a => l.length - a) 0 ⟨rfl, rfl, rfl, rfl, trivial⟩ ⟨Nat.zero_le _, fun i hi => by omega, M⟩ ?_
   rintro a w ⟨ha, hnb, M⟩
   refine W.seq ?_
   refine W.seq ?_
   refine W.sub [(0, _), (2, _), (4, _), (9, _)] ⟨rfl, rfl, rfl, rfl, trivial⟩ ?_
   refine W.reg [(0, false), (1, false), (2, false), (3, false)] (by kernel_rfl) ?_
   intro K hK
   refine x_move rfl rfl rfl rfl ?_
   refine x_move rfl rfl rfl rfl ?_
   refine x_len rfl rfl rfl rfl Tryz.underlying24 rfl ?_
   refine x_lss _ rfl rfl rfl rfl rfl rfl ?_
   refine Ex.done (hK _ _ ?_)
   refine At.then_n ?_
   refine W.cond rfl (fun hco10 => ?_) (fun hco10 => ?_)
   ·try simp only [sA, sB, sC, sD, sE, sF, sG, sH, sI, sJ, sK, sL, sM, sN, sO] at hco10
    obtain ⟨x, hx⟩ := get_lt (l := l) (q := a) (by omega)
    obtain ⟨bb, off, rfl, _⟩ := h.blk (j := a) (by omega)
    obtain ⟨px, cx, hrx0, _⟩ := h.row hx
    refine W.skip ?_
    refine At.then_n ?_
    refine W.seq ?_
    refine W.block ?_
    refine W.seq ?_
    refine W.sub [(0, _), (2, _), (4, _), (9, _)] ⟨rfl, rfl, rfl, rfl, trivial⟩ ?_
    refine W.reg [(0, false)] (by kernel_rfl) ?_
    intro K hK
    refine x_assign rfl rfl rfl rfl ?_
    refine Ex.done (hK _ _ ?_)
    refine At.then_n ?_
    refine W.block ?_
    refine W.loop (σ := Nat) (fun b => [(0, _), (2, _), (4, _), (9, _), (10, .int .i64 ((b : Nat) : Int))]) (fun b w => b ≤ l.length ∧ (∀ k < b, ¬ BadAt l a k) ∧ Sep w00 ([(bal2, .cells [.slice pu (l.foldl withR []).length cu].toArray 31 (0, 0)), (bal1, .cells [.slice none 0 0].toArray 31 (0, 0))] ++ (L2 ++ X)) w) (fun b => l.length - b) 0 ⟨rfl, rfl, rfl, rfl, rfl, trivial⟩ ⟨Nat.zero_le _, fun i hi => by omega, M⟩ ?_
    rintro b w ⟨hb, hnk, M⟩
    refine W.seq ?_
    refine W.seq ?_
    refine W.sub [(0, _), (2, _), (4, _), (9, _), (10, _)] ⟨rfl, rfl, rfl, rfl, rfl, trivial⟩ ?_
    refine W.reg [(0, false), (1, false), (2, false), (3, false)] (by kernel_rfl) ?_
    intro K hK
    refine x_move rfl rfl rfl rfl ?_
    refine x_move rfl rfl rfl rfl ?_
    refine x_len rfl rfl rfl rfl Tryz.underlying24 rfl ?_
    refine x_lss _ rfl rfl rfl rfl rfl rfl ?_
    refine Ex.done (hK _ _ ?_)
    refine At.then_n ?_
    refine W.cond rfl (fun hco11 => ?_) (fun hco11 => ?_)
    ·try simp only [sA, sB, sC, sD, sE, sF, sG, sH, sI, sJ, sK, sL, sM, sN, sO] at hco11
     obtain ⟨y, hy⟩ := get_lt (l := l) (q := b) (by omega)
     obtain ⟨py, cy, hry0, _⟩ := h.row hy
     refine W.skip ?_
     refine At.then_n ?_
     refine W.seq ?_
     refine W.block ?_
     refine W.seq ?_
     refine W.sub [(0, _), (2, _), (4, _), (9, _), (10, _)] ⟨rfl, rfl, rfl, rfl, rfl, trivial⟩ ?_
     refine W.regD (by kernel_rfl) #[0, 0, 3, 7, 15, 15, 63, 127, 255, 511, 1023, 2047, 4095, 4095, 16383, 32767, 65535, 4095, 4095, 397311, 921599, 1970175, 4194303, 8388607] [(0, false), (1, false), (2, false), (3, false), (4, false), (5, false), (6, false), (7, false), (8, false), (9, false), (10, false), (11, false), (12, false), (13, false), (14, false), (15, false), (16, false), (17, false), (18, false), (19, false), (20, false), (21, false), (22, true), (23, false)] (by kernel_rfl) ?_
     intro K wD3 hK hwD3
     have M := M.drew hwD3
     have hrx := RowAt.new hrx0 M.frm
     have hry := RowAt.new hry0 M.frm
     refine x_move rfl rfl rfl rfl ?_
     refine x_move rfl rfl rfl rfl ?_
     refine x_nei _ rfl rfl rfl rfl rfl rfl ?_
     refine x_move rfl rfl rfl rfl ?_
     refine Ex.split 98 rfl (fun hsp3 => ?_) (fun hsp3 => ?_)
     ·
      try simp only [sA, sB, sC, sD, sE, sF, sG, sH, sI, sJ, sK, sL, sM, sN, sO] at hsp3
      refine x_move rfl rfl rfl rfl ?_
      refine x_move rfl rfl rfl rfl ?_
      refine x_ia a rfl rfl rfl Tryz.underlying24 sz29 rfl rfl rfl (by omega) ?_
      refine x_fa rfl rfl rfl fo29_1 rfl ?_
      refine x_ld rfl rfl rfl Tryz.underlying4 rfl rfl (RowAt.cell hrx (j := 1) rfl) ?_
      refine x_not _ rfl rfl rfl rfl rfl ?_
      refine x_pickT rfl rfl rfl rfl rfl ?_
      refine x_move rfl rfl rfl rfl ?_
      refine Ex.split 106 rfl (fun hsp4 => ?_) (fun hsp4 => ?_)
      ·
       try simp only [sA, sB, sC, sD, sE, sF, sG, sH, sI, sJ, sK, sL, sM, sN, sO] at hsp4
       refine x_move rfl rfl rfl rfl ?_
       refine x_move rfl rfl rfl rfl ?_
       refine x_ia b rfl rfl rfl Tryz.underlying24 sz29 rfl rfl rfl (by omega) ?_
       refine x_fa rfl rfl rfl fo29_0 rfl ?_
       refine x_ld rfl rfl rfl Tryz.underlying9 rfl rfl (RowAt.cell hry (j := 0) rfl) ?_
       refine x_move rfl rfl rfl rfl ?_
       refine x_move rfl rfl rfl rfl ?_
       refine x_ia a rfl rfl rfl Tryz.underlying24 sz29 rfl rfl rfl (by omega) ?_
       refine x_fa rfl rfl rfl fo29_0 rfl ?_
       refine x_ld rfl rfl rfl Tryz.underlying9 rfl rfl (RowAt.cell hrx (j := 0) rfl) ?_
       refine x_call rfl rfl rfl rfl rfl en34 (runder_c) ?_
       rintro r wcall4 ⟨rfl, hncall4⟩
       have M := M.new hncall4
       refine ⟨⟨.inl (by kernel_rfl), .inl (by kernel_rfl), .inl (by kernel_rfl), trivial⟩, ?_⟩
       refine x_pickT rfl rfl rfl rfl rfl ?_
       refine Ex.done (hK _ _ ?_)
       refine At.then_n ?_
       refine W.cond rfl (fun hco12 => ?_) (fun hco12 => ?_)
       ·try simp only [sA, sB, sC, sD, sE, sF, sG, sH, sI, sJ, sK, sL, sM, sN, sO] at hco12
        refine W.seq ?_
        refine W.sub [(2, _)] ⟨rfl, trivial⟩ ?_
        refine W.reg [(0, false), (1, true), (2, false)] (by kernel_rfl) ?_
        intro K hK
        refine x_build [_] rfl rfl rfl pl31 ze31 rfl rfl rfl ?_
        refine x_st [_] _ rfl rfl rfl sz31 rfl rfl rfl rfl (M.at_ 1 rfl) rfl rfl rfl ?_
        intro wst9 hwst9
        have M := M.put 1 rfl hwst9
        refine ⟨trivial, ?_⟩
        refine x_assign rfl rfl rfl rfl ?_
        refine Ex.done (hK _ _ ?_)
        refine At.then_n ?_
        refine W.ret ?_
        refine At.blk_r ?_
        refine At.then_r ?_
        refine At.loop_r ?_
        refine At.blk_r ?_
        refine At.blk_r ?_
        refine At.then_r ?_
        refine At.loop_r ?_
        refine At.blk_r ?_
        refine At.then_r ?_
        refine At.ret2 (.cell 2 31) (.tmp 3) rfl ⟨⟨_, rfl, run_loadVarA (l := [_]) Tryz.underlying31 rfl sz31 ⟨_, _, _, (M.at_ 1 rfl), rfl⟩ (Nat.zero_lt_succ _)⟩, rfl, trivial⟩ ?_
        have hR := ofL_3 hf hnd ⟨a, b, x, y, hx, hy, by omega, hsp4, hco12⟩
        rw [hR]; exact ⟨_, [], rfl, nilK, St.dropL (St.dropL (L' := [_, _]) M)⟩
       ·try simp only [sA, sB, sC, sD, sE, sF, sG, sH, sI, sJ, sK, sL, sM, sN, sO] at hco12
        refine W.skip ?_
        refine At.blk_n ?_
        refine At.then_n ?_
        refine W.sub [(0, _), (2, _), (4, _), (9, _), (10, _)] ⟨rfl, rfl, rfl, rfl, rfl, trivial⟩ ?_
        refine W.reg [(0, false), (1, false), (2, false)] (by kernel_rfl) ?_
        intro K hK
        refine x_move rfl rfl rfl rfl ?_
        refine x_add _ rfl rfl rfl rfl rfl (wadd (by omega) (by omega)) ?_
        refine x_assign rfl rfl rfl rfl ?_
        refine Ex.done (hK _ _ ?_)
        exact At.back (b + 1) ⟨rfl, rfl, rfl, rfl, rfl, trivial⟩ ⟨by omega, badAt_step hnk (by
         intro hbd_
         obtain ⟨x_, y_, g1, g2, g3, g4, g5⟩ := hbd_
         rw [hx] at g1; rw [hy] at g2; cases g1; cases g2
         rw [hco12] at g5; cases g5), M⟩ (by first | omega | (simp only; omega) | (simp; done) | (simp; omega))
      ·
       try simp only [sA, sB, sC, sD, sE, sF, sG, sH, sI, sJ, sK, sL, sM, sN, sO] at hsp4
       refine Ex.skip_ rfl rfl rfl ?_
       refine Ex.skip_ rfl rfl rfl ?_
       refine Ex.skip_ rfl rfl rfl ?_
       refine Ex.skip_ rfl rfl rfl ?_
       refine Ex.skip_ rfl rfl rfl ?_
       refine Ex.skip_ rfl rfl rfl ?_
       refine Ex.skip_ rfl rfl rfl ?_
       refine Ex.skip_ rfl rfl rfl ?_
       refine Ex.skip_ rfl rfl rfl ?_
       refine Ex.skip_ rfl rfl rfl ?_
       refine Ex.skipm_ rfl rfl rfl ?_
       refine x_pickF rfl rfl rfl rfl rfl ?_
       refine Ex.done (hK _ _ ?_)
       refine At.then_n ?_
       refine W.condF rfl ?_
       refine W.skip ?_
       refine At.blk_n ?_
       refine At.then_n ?_
       refine W.sub [(0, _), (2, _), (4, _), (9, _), (10, _)] ⟨rfl, rfl, rfl, rfl, rfl, trivial⟩ ?_
       refine W.reg [(0, false), (1, false), (2, false)] (by kernel_rfl) ?_
       intro K hK
       refine x_move rfl rfl rfl rfl ?_
       refine x_add _ rfl rfl rfl rfl rfl (wadd (by omega) (by omega)) ?_
       refine x_assign rfl rfl rfl rfl ?_
       refine Ex.done (hK _ _ ?_)
       exact At.back (b + 1) ⟨rfl, rfl, rfl, rfl, rfl, trivial⟩ ⟨by omega, badAt_step hnk (by
        intro hbd_
        obtain ⟨x_, y_, g1, g2, g3, g4, g5⟩ := hbd_
        rw [hx] at g1; rw [hy] at g2; cases g1; cases g2
        rw [hsp4] at g4; cases g4), M⟩ (by first | omega | (simp only; omega) | (simp; done) | (simp; omega))
     ·
      try simp only [sA, sB, sC, sD, sE, sF, sG, sH, sI, sJ, sK, sL, sM, sN, sO] at hsp3
      refine Ex.skip_ rfl rfl rfl ?_
      refine Ex.skip_ rfl rfl rfl ?_
      refine Ex.skip_ rfl rfl rfl ?_
      refine Ex.skip_ rfl rfl rfl ?_
      refine Ex.skip_ rfl rfl rfl ?_
      refine Ex.skip_ rfl rfl rfl ?_
      refine x_pickF rfl rfl rfl rfl rfl ?_
      refine x_move rfl rfl rfl rfl ?_
      refine Ex.skip_ rfl rfl rfl ?_
      refine Ex.skip_ rfl rfl rfl ?_
      refine Ex.skip_ rfl rfl rfl ?_
      refine Ex.skip_ rfl rfl rfl ?_
      refine Ex.skip_ rfl rfl rfl ?_
      refine Ex.skip_ rfl rfl rfl ?_
      refine Ex.skip_ rfl rfl rfl ?_
      refine Ex.skip_ rfl rfl rfl ?_
      refine Ex.skip_ rfl rfl rfl ?_
      refine Ex.skip_ rfl rfl rfl ?_
      refine Ex.skipm_ rfl rfl rfl ?_
      refine x_pickF rfl rfl rfl rfl rfl ?_
      refine Ex.done (hK _ _ ?_)
      refine At.then_n ?_
      refine W.condF rfl ?_
      refine W.skip ?_
      refine At.blk_n ?_
      refine At.then_n ?_
      refine W.sub [(0, _), (2, _), (4, _), (9, _), (10, _)] ⟨rfl, rfl, rfl, rfl, rfl, trivial⟩ ?_
      refine W.reg [(0, false), (1, false), (2, false)] (by kernel_rfl) ?_
      intro K hK
      refine x_move rfl rfl rfl rfl ?_
      refine x_add _ rfl rfl rfl rfl rfl (wadd (by omega) (by omega)) ?_
      refine x_assign rfl rfl rfl rfl ?_
      refine Ex.done (hK _ _ ?_)
      exact At.back (b + 1) ⟨rfl, rfl, rfl, rfl, rfl, trivial⟩ ⟨by omega, badAt_step hnk (by
       intro hbd_
       obtain ⟨x_, y_, g1, g2, g3, g4, g5⟩ := hbd_
       rw [hx] at g1; rw [hy] at g2; cases g1; cases g2
       omega), M⟩ (by first | omega | (simp only; omega) | (simp; done) | (simp; omega))
    ·try simp only [sA, sB, sC, sD, sE, sF, sG, sH, sI, sJ, sK, sL, sM, sN, sO] at hco11
     refine W.exit ?_
     refine At.then_x ?_
     refine At.loop_x ?_
     refine At.blk_x ?_
     refine At.blk_n ?_
     refine At.then_n ?_
     refine W.sub [(0, _), (2, _), (4, _), (9, _)] ⟨rfl, rfl, rfl, rfl, trivial⟩ ?_
     refine W.reg [(0, false), (1, false), (2, false)] (by kernel_rfl) ?_
     intro K hK
     refine x_move rfl rfl rfl rfl ?_
     refine x_add _ rfl rfl rfl rfl rfl (wadd (by omega) (by omega)) ?_
     refine x_assign rfl rfl rfl rfl ?_
     refine Ex.done (hK _ _ ?_)
     exact At.back (a + 1) ⟨rfl, rfl, rfl, rfl, trivial⟩ ⟨by omega, badAt_row hnb (fun k hk => hnk k (by omega)), M⟩ (by first | omega | (simp only; omega) | (simp; done) | (simp; omega))
   ·try simp only [sA, sB, sC, sD, sE, sF, sG, sH, sI, sJ, sK, sL, sM, sN, sO] at hco10
    have ha2 : a = l.length := by omega
    subst ha2
    have hnb2 : ¬ badL l := fun ⟨i, k, hb⟩ => hnb i (by obtain ⟨_, _, h1, _⟩ := hb; exact (List.getElem?_eq_some_iff.1 h1).1) k hb
    have hR0 := ofL_4 hf hnd hnb2
    have hsE : ∀ y ∈ l, splitE y.1 = 0 := fun y hy => (single_ok (hok y hy)).1
    refine W.exit ?_
    refine At.then_x ?_
    refine At.loop_x ?_
    refine At.blk_x ?_
    refine At.then_n ?_
    refine W.seq ?_
    refine W.seq ?_
    refine W.sub [(0, _), (2, _), (4, _)] ⟨rfl, rfl, rfl, trivial⟩ ?_
    refine W.reg [(0, false)] (by kernel_rfl) ?_
    intro K hK
    refine x_assign rfl rfl rfl rfl ?_
    refine Ex.done (hK _ _ ?_)
    refine At.then_n ?_
    refine W.block ?_
    refine W.loop (σ := Nat × Value × List (Nat × Obj)) (fun q => [(0, _), (2, _), (4, _), (11, .int .i64 ((q.1 : Nat) : Int))]) (fun q w => q.1 ≤ l.length ∧ FilesK w00 q.2.2 q.2.1 (fillL (l.take q.1) (l.foldl withR [])) ∧ Sep w00 ([(bal2, .cells [q.2.1].toArray 31 (0, 0)), (bal1, .cells [.slice none 0 0].toArray 31 (0, 0))] ++ (q.2.2 ++ X)) w) (fun q => l.length - q.1) (0, _, L2) ⟨rfl, rfl, rfl, rfl, trivial⟩ ⟨Nat.zero_le _, hu, M⟩ ?_
    rintro ⟨i, u, L3⟩ w ⟨hi, hu, M⟩
    simp only at hi hu M
    obtain ⟨pu, cu, rfl⟩ := (hu.at_ M (fun y hy => List.mem_append_right _ (List.mem_append_left _ hy))).shape
    have hfl : (fillL (l.take i) (l.foldl withR [])).length ≤ l.length + 8 * i := by
     have := fillL_len (l.take i) (l.foldl withR [])
     rw [fold_len, List.length_take] at this; omega
    have hfn : ∀ y ∈ fillL (l.take i) (l.foldl withR []), y.1.length ≤ 2000 := fillL_names (fun z hz => hsE z (List.mem_of_mem_take hz)) (fun y hy => hnm y (fold_mem.1 hy))
    refine W.seq ?_
    refine W.seq ?_
    refine W.sub [(0, _), (2, _), (4, _), (11, _)] ⟨rfl, rfl, rfl, rfl, trivial⟩ ?_
    refine W.reg [(0, false), (1, false), (2, false), (3, false)] (by kernel_rfl) ?_
    intro K hK
    refine x_move rfl rfl rfl rfl ?_
    refine x_move rfl rfl rfl rfl ?_
    refine x_len rfl rfl rfl rfl Tryz.underlying24 rfl ?_
    refine x_lss _ rfl rfl rfl rfl rfl rfl ?_
    refine Ex.done (hK _ _ ?_)
    refine At.then_n ?_
    refine W.cond rfl (fun hco15 => ?_) (fun hco15 => ?_)
    ·try simp only [sA, sB, sC, sD, sE, sF, sG, sH, sI, sJ, sK, sL, sM, sN, sO] at hco15
     obtain ⟨x, hx⟩ := get_lt (l := l) (q := i) (by omega)
     obtain ⟨bb, off, rfl, _⟩ := h.blk (j := i) (by omega)
     obtain ⟨pd, cd, hrow0, _⟩ := h.row hx
     have hrow := RowAt.new hrow0 M.frm
     have hP := POK_split (hsE x (List.mem_of_getElem? hx))
     have hn0 := (single_ok (hok x (List.mem_of_getElem? hx))).2.1
     have hsl := splitN_len x.1
     have hlp := List.length_pos_iff.2 hn0
     refine W.skip ?_
     refine At.then_n ?_
     refine W.seq ?_
     refine W.block ?_
     refine W.seq ?_
     refine W.sub [(0, _), (2, _), (4, _), (11, _)] ⟨rfl, rfl, rfl, rfl, trivial⟩ ?_
     refine W.reg [(0, false), (1, false), (2, false), (3, false), (4, false), (5, true), (6, false), (7, false), (8, false), (9, false), (10, false)] (by kernel_rfl) ?_
     intro K hK
     refine x_move rfl rfl rfl rfl ?_
     refine x_move rfl rfl rfl rfl ?_
     refine x_ia i rfl rfl rfl Tryz.underlying24 sz29 rfl rfl rfl (by omega) ?_
     refine x_fa rfl rfl rfl fo29_0 rfl ?_
     refine x_ld rfl rfl rfl Tryz.underlying9 rfl rfl (RowAt.cell hrow (j := 0) rfl) ?_
     refine x_call rfl rfl rfl rfl rfl en31 (rsplit_c) ?_
     rintro r_ w5 ⟨v5, L5, rfl, M5, hs5⟩
     have M := M.grow M5
     obtain ⟨p5, c5, rfl, hcap5⟩ := hs5.shape2 (by decide)
     have M : Sep w00 ([(bal2, .cells [.slice pu (fillL (l.take i) (l.foldl withR [])).length cu].toArray 31 (0, 0)), (bal1, .cells [.slice none 0 0].toArray 31 (0, 0))] ++ (L3 ++ (X ++ L5))) w5 := by simpa using M
     refine ⟨trivial, ?_⟩
     refine x_move rfl rfl rfl rfl ?_
     refine x_ext rfl rfl rfl rfl rfl ?_
     refine x_ext rfl rfl rfl rfl rfl ?_
     refine x_assign rfl rfl rfl rfl ?_
     refine x_assign rfl rfl rfl rfl ?_
     refine Ex.done (hK _ _ ?_)
     refine At.then_n ?_
     refine W.seq ?_
     refine W.sub [(0, _), (2, _), (4, _), (11, _), (12, _)] ⟨rfl, rfl, rfl, rfl, rfl, trivial⟩ ?_
     refine W.reg [(0, false)] (by kernel_rfl) ?_
     intro K hK
     refine x_assign rfl rfl rfl rfl ?_
     refine Ex.done (hK _ _ ?_)
     refine At.then_n ?_
     refine W.block ?_
     refine W.loop (σ := Nat × Value × List (Nat × Obj)) (fun q => [(0, _), (2, _), (4, _), (11, _), (12, _), (14, .int .i64 ((q.1 + 1 : Nat) : Int))]) (fun q w => q.1 + 1 ≤ (splitN x.1).length ∧ FilesK w00 q.2.2 q.2.1 (fillX (splitN x.1) (fillL (l.take i) (l.foldl withR [])) q.1) ∧ Sep w00 ([(bal2, .cells [q.2.1].toArray 31 (0, 0)), (bal1, .cells [.slice none 0 0].toArray 31 (0, 0))] ++ (q.2.2 ++ (X ++ L5))) w) (fun q => (splitN x.1).length - q.1) (0, _, L3) ⟨rfl, rfl, rfl, rfl, rfl, rfl, trivial⟩ ⟨by simp only; omega, hu, M⟩ ?_
     rintro ⟨k, u2, L4⟩ w ⟨hk, hu2, M⟩
     simp only at hk hu2 M
     obtain ⟨pu2, cu2, rfl⟩ := (hu2.at_ M (fun y hy => List.mem_append_right _ (List.mem_append_left _ hy))).shape
     have hxl := fillX_len (N := splitN x.1) (t := fillL (l.take i) (l.foldl withR [])) k
     have hxn := fillX_names (k := k) hP hfn
     have hPk := hP.take (k + 1)
     refine W.seq ?_
     refine W.seq ?_
     refine W.sub [(0, _), (2, _), (4, _), (11, _), (12, _), (14, _)] ⟨rfl, rfl, rfl, rfl, rfl, rfl, trivial⟩ ?_
     refine W.reg [(0, false), (1, false), (2, false), (3, false)] (by kernel_rfl) ?_
     intro K hK
     refine x_move rfl rfl rfl rfl ?_
     refine x_move rfl rfl rfl rfl ?_
     refine x_len rfl rfl rfl rfl Tryz.underlying47 rfl ?_
     refine x_lss _ rfl rfl rfl rfl rfl rfl ?_
     refine Ex.done (hK _ _ ?_)
     refine At.then_n ?_
     refine W.cond rfl (fun hco16 => ?_) (fun hco16 => ?_)
     ·try simp only [sA, sB, sC, sD, sE, sF, sG, sH, sI, sJ, sK, sL, sM, sN, sO] at hco16
      refine W.skip ?_
      refine At.then_n ?_
      refine W.seq ?_
      refine W.block ?_
      refine W.seq ?_
      refine W.sub [(0, _), (2, _), (4, _), (11, _), (12, _), (14, _)] ⟨rfl, rfl, rfl, rfl, rfl, rfl, trivial⟩ ?_
      refine W.regD (by kernel_rfl) #[0, 0, 0, 6, 14, 31, 63] [(0, false), (1, false), (2, false), (3, false), (4, true), (5, true), (6, false)] (by kernel_rfl) ?_
      intro K wD4 hK hwD4
      have M := M.drew hwD4
      refine x_ldA [_] rfl rfl rfl Tryz.underlying31 rfl sz31 rfl rfl ⟨_, _, _, (M.at_ 0 rfl), rfl⟩ ?_
      refine x_move rfl rfl rfl rfl ?_
      refine x_move rfl rfl rfl rfl ?_
      refine x_slh (k + 1) rfl rfl rfl Tryz.underlying47 sz9 rfl rfl (by omega) (by omega) ?_
      refine x_call rfl rfl rfl rfl rfl en35 (rtext_c (strsO_at (strsO_take hs5 (j := k + 1) (by omega)) M (fun y hy => List.mem_append_right _ (List.mem_append_right _ (List.mem_append_right _ hy)))) (by simp; omega) (fun y hy => by have := allOK_len hPk.2.1 y hy; omega)) ?_
      rintro r_ w6 ⟨rfl, hn6⟩
      have M := M.new hn6
      refine ⟨⟨.inr ⟨_, _, _, (M.at_ 0 rfl), rfl⟩, trivial⟩, ?_⟩
      refine x_call rfl rfl rfl rfl rfl en32 (at_c (hu2.at_ M (fun y hy => List.mem_append_right _ (List.mem_append_left _ hy))) (by omega)) ?_
      rintro r_ w7 ⟨rfl, hn7⟩
      have M := M.new hn7
      refine ⟨⟨.inl (by kernel_rfl), trivial⟩, ?_⟩
      refine x_lss _ rfl rfl rfl rfl rfl rfl ?_
      refine Ex.done (hK _ _ ?_)
      refine At.then_n ?_
      refine W.cond rfl (fun hco17 => ?_) (fun hco17 => ?_)
      ·try simp only [sA, sB, sC, sD, sE, sF, sG, sH, sI, sJ, sK, sL, sM, sN, sO] at hco17
       have hfs := fillX_no (N := splitN x.1) (t := fillL (l.take i) (l.foldl withR [])) (k := k) (by omega)
       refine W.sub [(0, _), (2, _), (4, _), (11, _), (12, _), (14, _)] ⟨rfl, rfl, rfl, rfl, rfl, rfl, trivial⟩ ?_
       refine W.regD (by kernel_rfl) #[0, 0, 0, 6, 14, 30, 63, 127] [(0, false), (1, false), (2, false), (3, false), (4, true), (5, false), (6, true), (7, true)] (by kernel_rfl) ?_
       intro K wD5 hK hwD5
       have M := M.drew hwD5
       refine x_ldA [_] rfl rfl rfl Tryz.underlying31 rfl sz31 rfl rfl ⟨_, _, _, (M.at_ 0 rfl), rfl⟩ ?_
       refine x_move rfl rfl rfl rfl ?_
       refine x_move rfl rfl rfl rfl ?_
       refine x_slh (k + 1) rfl rfl rfl Tryz.underlying47 sz9 rfl rfl (by omega) (by omega) ?_
       refine x_call rfl rfl rfl rfl rfl en35 (rtext_c (strsO_at (strsO_take hs5 (j := k + 1) (by omega)) M (fun y hy => List.mem_append_right _ (List.mem_append_right _ (List.mem_append_right _ hy)))) (by simp; omega) (fun y hy => by have := allOK_len hPk.2.1 y hy; omega)) ?_
       rintro r_ w8 ⟨rfl, hn8⟩
       have M := M.new hn8
       refine ⟨⟨.inr ⟨_, _, _, (M.at_ 0 rfl), rfl⟩, trivial⟩, ?_⟩
       refine x_build [_, _, _] rfl rfl rfl pl29 ze29 rfl rfl rfl ?_
       refine x_call rfl rfl rfl rfl rfl en33 (with_c (x := (joinS ((splitN x.1).take (k + 1)), true, [])) (St.inn2 (F := [_, _]) M) hu2 (SgK.own (L' := []) OwL.nil (by decide) (by simp)) (by omega) hxn (by have := hPk.2.2; simp only; omega)) ?_
       rintro r_ w9 ⟨u3, L6, rfl, hu3, M⟩
       have M := M.out2 [_, _]
       obtain ⟨pu3, cu3, rfl⟩ := (hu3.at_ M (fun y hy => List.mem_append_right _ (List.mem_append_left _ hy))).shape
       refine ⟨⟨.inl (by kernel_rfl), trivial⟩, ?_⟩
       refine x_st [_] _ rfl rfl rfl sz31 rfl rfl rfl rfl (M.at_ 0 rfl) rfl rfl rfl ?_
       intro wst10 hwst10
       have M := M.put 0 rfl hwst10
       refine ⟨⟨.inl (by kernel_rfl), trivial⟩, ?_⟩
       refine Ex.done (hK _ _ ?_)
       refine At.blk_n ?_
       refine At.then_n ?_
       refine W.sub [(0, _), (2, _), (4, _), (11, _), (12, _), (14, _)] ⟨rfl, rfl, rfl, rfl, rfl, rfl, trivial⟩ ?_
       refine W.reg [(0, false), (1, false), (2, false)] (by kernel_rfl) ?_
       intro K hK
       refine x_move rfl rfl rfl rfl ?_
       refine x_add _ rfl rfl rfl rfl rfl (wadd (by omega) (by omega)) ?_
       refine x_assign rfl rfl rfl rfl ?_
       refine Ex.done (hK _ _ ?_)
       exact At.back ((k + 1, _, L4 ++ L6)) ⟨rfl, rfl, rfl, rfl, rfl, rfl, trivial⟩ ⟨by simp only; omega, by simp only; rw [hfs]; exact hu3, M⟩ (by first | omega | (simp only; omega) | (simp; done) | (simp; omega))
      ·try simp only [sA, sB, sC, sD, sE, sF, sG, sH, sI, sJ, sK, sL, sM, sN, sO] at hco17
       have hfs := fillX_yes (N := splitN x.1) (t := fillL (l.take i) (l.foldl withR [])) (k := k) (by omega)
       refine W.skip ?_
       refine At.blk_n ?_
       refine At.then_n ?_
       refine W.sub [(0, _), (2, _), (4, _), (11, _), (12, _), (14, _)] ⟨rfl, rfl, rfl, rfl, rfl, rfl, trivial⟩ ?_
       refine W.reg [(0, false), (1, false), (2, false)] (by kernel_rfl) ?_
       intro K hK
       refine x_move rfl rfl rfl rfl ?_
       refine x_add _ rfl rfl rfl rfl rfl (wadd (by omega) (by omega)) ?_
       refine x_assign rfl rfl rfl rfl ?_
       refine Ex.done (hK _ _ ?_)
       exact At.back ((k + 1, _, L4)) ⟨rfl, rfl, rfl, rfl, rfl, rfl, trivial⟩ ⟨by simp only; omega, by simp only; rw [hfs]; exact hu2, M⟩ (by first | omega | (simp only; omega) | (simp; done) | (simp; omega))
     ·try simp only [sA, sB, sC, sD, sE, sF, sG, sH, sI, sJ, sK, sL, sM, sN, sO] at hco16
      have hk2 : k = (splitN x.1).length - 1 := by omega
      subst hk2
      rw [← fillL_step hx] at hu2 M
      have M : Sep w00 (([(bal2, .cells [.slice pu2 (fillL (l.take (i + 1)) (l.foldl withR [])).length cu2].toArray 31 (0, 0)), (bal1, .cells [.slice none 0 0].toArray 31 (0, 0))] ++ (L4 ++ X)) ++ L5) w := by simpa only [List.append_assoc] using M
      have M := M.dropR
      refine W.exit ?_
      refine At.then_x ?_
      refine At.loop_x ?_
      refine At.blk_x ?_
      refine At.blk_n ?_
      refine At.then_n ?_
      refine W.sub [(0, _), (2, _), (4, _), (11, _)] ⟨rfl, rfl, rfl, rfl, trivial⟩ ?_
      refine W.reg [(0, false), (1, false), (2, false)] (by kernel_rfl) ?_
      intro K hK
      refine x_move rfl rfl rfl rfl ?_
      refine x_add _ rfl rfl rfl rfl rfl (wadd (by omega) (by omega)) ?_
      refine x_assign rfl rfl rfl rfl ?_
      refine Ex.done (hK _ _ ?_)
      exact At.back ((i + 1, _, L4)) ⟨rfl, rfl, rfl, rfl, trivial⟩ ⟨by simp only; omega, hu2, M⟩ (by first | omega | (simp only; omega) | (simp; done) | (simp; omega))
    ·try simp only [sA, sB, sC, sD, sE, sF, sG, sH, sI, sJ, sK, sL, sM, sN, sO] at hco15
     have hi2 : i = l.length := by omega
     subst hi2
     rw [List.take_length] at hu M hfl
     refine W.exit ?_
     refine At.then_x ?_
     refine At.loop_x ?_
     refine At.blk_x ?_
     refine At.then_n ?_
     refine W.seq ?_
     refine W.seq ?_
     refine W.sub [(2, _), (4, _)] ⟨rfl, rfl, trivial⟩ ?_
     refine W.reg [(0, false), (1, false), (2, false), (3, false)] (by kernel_rfl) ?_
     intro K hK
     refine x_fa rfl rfl rfl fo31_0 rfl ?_
     refine x_ld rfl rfl rfl Tryz.underlying24 rfl rfl (cell_of (M.at_ 0 rfl) rfl) ?_
     refine x_len rfl rfl rfl rfl Tryz.underlying24 rfl ?_
     refine x_gtr _ rfl rfl rfl rfl rfl rfl ?_
     refine Ex.done (hK _ _ ?_)
     refine At.then_n ?_
     refine W.cond rfl (fun hco18 => ?_) (fun hco18 => ?_)
     ·try simp only [sA, sB, sC, sD, sE, sF, sG, sH, sI, sJ, sK, sL, sM, sN, sO] at hco18
      refine W.seq ?_
      refine W.sub [(2, _)] ⟨rfl, trivial⟩ ?_
      refine W.reg [(0, false), (1, true), (2, false)] (by kernel_rfl) ?_
      intro K hK
      refine x_build [_] rfl rfl rfl pl31 ze31 rfl rfl rfl ?_
      refine x_st [_] _ rfl rfl rfl sz31 rfl rfl rfl rfl (M.at_ 1 rfl) rfl rfl rfl ?_
      intro wst11 hwst11
      have M := M.put 1 rfl hwst11
      refine ⟨trivial, ?_⟩
      refine x_assign rfl rfl rfl rfl ?_
      refine Ex.done (hK _ _ ?_)
      refine At.then_n ?_
      refine W.ret ?_
      refine At.then_r ?_
      refine At.ret2 (.cell 2 31) (.tmp 3) rfl ⟨⟨_, rfl, run_loadVarA (l := [_]) Tryz.underlying31 rfl sz31 ⟨_, _, _, (M.at_ 1 rfl), rfl⟩ (Nat.zero_lt_succ _)⟩, rfl, trivial⟩ ?_
      have hR := hR0.trans (if_pos (by omega))
      rw [hR]; exact ⟨_, [], rfl, nilK, St.dropL (St.dropL (L' := [_, _]) M)⟩
     ·try simp only [sA, sB, sC, sD, sE, sF, sG, sH, sI, sJ, sK, sL, sM, sN, sO] at hco18
      refine W.skip ?_
      refine At.then_n ?_
      refine W.seq ?_
      refine W.sub [(2, _), (4, _)] ⟨rfl, rfl, trivial⟩ ?_
      refine W.reg [(0, false), (1, true), (2, false)] (by kernel_rfl) ?_
      intro K hK
      refine x_ldA [_] rfl rfl rfl Tryz.underlying31 rfl sz31 rfl rfl ⟨_, _, _, (M.at_ 0 rfl), rfl⟩ ?_
      refine x_st [_] _ rfl rfl rfl sz31 rfl rfl rfl rfl (M.at_ 1 rfl) rfl rfl rfl ?_
      intro wst12 hwst12
      have M := M.put 1 rfl hwst12
      refine ⟨trivial, ?_⟩
      refine x_assign rfl rfl rfl rfl ?_
      refine Ex.done (hK _ _ ?_)
      refine At.then_n ?_
      refine W.ret ?_
      refine At.ret2 (.cell 2 31) (.tmp 3) rfl ⟨⟨_, rfl, run_loadVarA (l := [_]) Tryz.underlying31 rfl sz31 ⟨_, _, _, (M.at_ 1 rfl), rfl⟩ (Nat.zero_lt_succ _)⟩, rfl, trivial⟩ ?_
      have hR := hR0.trans (if_neg (by omega))
      rw [hR]; exact ⟨_, L3, rfl, hu, St.dropL (L' := [_, _]) M⟩
end Go.Proofs.YtigfbpbnohkokaaGreat

namespace Go.Proofs.YtigfbpbnohkokaaGreat
open Go Go.Fw Go.RowKit
set_option linter.unusedVariables false
set_option linter.unusedSimpArgs false

abbrev MetasO (L : List (Nat × Obj)) (v : Value) (ml : List Mt) : Prop := OwL L v 3 ml.length (mCs ml)
theorem metasO_at {L : List (Nat × Obj)} {v : Value} {ml : List Mt} {w : World} (h : MetasO L v ml) (hg : ∀ y ∈ L, w.heap[y.1]? = some y.2) : MetasAt w v ml := .inr ((h.sl (by decide)).get hg)
theorem mCs_snoc (ml : List Mt) (m : Mt) : mCs (ml ++ [m]) = mCs ml ++ [strV m.1, .bool m.2.1, .int .i64 m.2.2] := by simp [mCs]
/-- The base that files make. -/
def baseL (l : List Raw) : BaseF := fun p => (l.find? fun x => decide (x.1 = p) && !x.2.1).map (·.2.2)
theorem baseL_of {l : List Raw} (hn : (l.map (·.1)).Nodup) {x : Raw} (hx : x ∈ l) (hd : x.2.1 = false) : baseL l x.1 = some x.2.2 := by
 unfold baseL
 have : l.find? (fun y => decide (y.1 = x.1) && !y.2.1) = some x := by
  obtain ⟨j, hj, rfl⟩ := List.getElem_of_mem hx
  rw [List.find?_eq_some_iff_getElem]
  refine ⟨by simp [hd], j, hj, rfl, fun i hi => ?_⟩
  have : l[i].1 ≠ l[j].1 := fun e => by
   have e : (l.map (·.1))[i]'(by simp; omega) = (l.map (·.1))[j]'(by simpa using hj) := by simpa using e
   have := (List.getElem_inj hn).1 e
   omega
  simp [this]
 rw [this]; rfl
theorem baseL_at {l : List Raw} {p b : List UInt8} {j : Nat} {x : Raw} (hb : baseL l p = some b) (hx : l[j]? = some x) (hno : ∀ y ∈ l.take j, ¬ (y.1 = p ∧ y.2.1 = false)) (h1 : x.1 = p) (h2 : x.2.1 = false) : x.2.2 = b := by
 unfold baseL at hb
 have : l.find? (fun y => decide (y.1 = p) && !y.2.1) = some x := by
  obtain ⟨hj, rfl⟩ := List.getElem?_eq_some_iff.1 hx
  rw [List.find?_eq_some_iff_getElem]
  refine ⟨by simp [h1, h2], j, hj, rfl, fun i hi => ?_⟩
  have := hno l[i] (List.mem_take_iff_getElem.2 ⟨i, by omega, rfl⟩)
  by_cases e1 : l[i].1 = p
  ·cases e2 : l[i].2.1 with
   | true => simp
   | false => exact absurd ⟨e1, e2⟩ this
  ·simp [e1]
 rw [this] at hb
 exact Option.some.inj hb
theorem baseL_some {l : List Raw} {p b : List UInt8} (hb : baseL l p = some b) (hno : ∀ y ∈ l, ¬ (y.1 = p ∧ y.2.1 = false)) : False := by
 unfold baseL at hb
 have : l.find? (fun y => decide (y.1 = p) && !y.2.1) = none := List.find?_eq_none.2 fun y hy => by
  have := hno y hy
  by_cases e1 : y.1 = p
  ·cases e2 : y.2.1 with
   | true => simp
   | false => exact absurd ⟨e1, e2⟩ this
  ·simp [e1]
 rw [this] at hb; cases hb
end Go.Proofs.YtigfbpbnohkokaaGreat

namespace Go.Proofs.YtigfbpbnohkokaaGreat
open Go Go.Fw Go.RowKit Go.Proofs
set_option linter.unusedVariables false
set_option linter.unusedSimpArgs false

set_option maxRecDepth 100000 in
theorem metas_c {w0 : World} {v : Value} {l : List Raw} (h : FilesAt w0 v l) (hl : l.length ≤ 1000) : Ret Tryz.prog 39 #[v] w0 fun r w' => ∃ Lr, MetasO Lr r (l.map metaR) ∧ Sep w0 Lr w' := by
 have M : Sep w0 [] w0 := St.nil w0
 obtain ⟨pv, cv, rfl⟩ := h.shape
 refine Ret.of_W Tryz.func39 rfl Tryz.ntmps39 rfl ?_
 refine W.seq ?_
 refine W.sub [(0, _)] ⟨rfl, trivial⟩ ?_
 refine W.reg [(0, false)] (by kernel_rfl) ?_
 intro K hK
 refine x_assign rfl rfl rfl rfl ?_
 refine Ex.done (hK _ _ ?_)
 refine At.then_n ?_
 refine W.seq ?_
 refine W.sub [(0, _)] ⟨rfl, trivial⟩ ?_
 refine W.reg [(0, false)] (by kernel_rfl) ?_
 intro K hK
 refine x_assign rfl rfl rfl rfl ?_
 refine Ex.done (hK _ _ ?_)
 refine At.then_n ?_
 refine W.seq ?_
 refine W.seq ?_
 refine W.sub [(0, _), (3, _)] ⟨rfl, rfl, trivial⟩ ?_
 refine W.reg [(0, false)] (by kernel_rfl) ?_
 intro K hK
 refine x_assign rfl rfl rfl rfl ?_
 refine Ex.done (hK _ _ ?_)
 refine At.then_n ?_
 refine W.block ?_
 refine W.loop (σ := Nat × Value × List (Nat × Obj)) (fun q => [(0, _), (3, q.2.1), (4, .int .i64 ((q.1 : Nat) : Int))]) (fun q w => q.1 ≤ l.length ∧ OwL q.2.2 q.2.1 3 q.1 (mCs ((l.take q.1).map metaR)) ∧ Sep w0 q.2.2 w) (fun q => l.length - q.1) (0, .slice none 0 0, []) ⟨rfl, rfl, rfl, trivial⟩ ⟨Nat.zero_le _, OwL.nil, M⟩ ?_
 rintro ⟨j, u, Lo⟩ w ⟨hj, how, M⟩
 simp only at hj how M
 obtain ⟨pu, cu, rfl⟩ := how.shape
 refine W.seq ?_
 refine W.seq ?_
 refine W.sub [(0, _), (3, _), (4, _)] ⟨rfl, rfl, rfl, trivial⟩ ?_
 refine W.reg [(0, false), (1, false), (2, false), (3, false)] (by kernel_rfl) ?_
 intro K hK
 refine x_move rfl rfl rfl rfl ?_
 refine x_move rfl rfl rfl rfl ?_
 refine x_len rfl rfl rfl rfl Tryz.underlying24 rfl ?_
 refine x_lss _ rfl rfl rfl rfl rfl rfl ?_
 refine Ex.done (hK _ _ ?_)
 refine At.then_n ?_
 refine W.cond rfl (fun hco1 => ?_) (fun hco1 => ?_)
 ·try simp only [sA, sB, sC, sD, sE, sF, sG, sH, sI, sJ, sK, sL, sM, sN, sO] at hco1
  obtain ⟨x, hx⟩ := get_lt (l := l) (q := j) (by omega)
  obtain ⟨bb, off, rfl, _⟩ := (h.new M.frm).blk (j := j) (by omega)
  refine W.skip ?_
  refine At.then_n ?_
  refine W.seq ?_
  refine W.block ?_
  refine W.sub [(0, _), (3, _), (4, _)] ⟨rfl, rfl, rfl, trivial⟩ ?_
  refine W.regD (by kernel_rfl) #[0, 0, 0, 6, 14, 30, 0, 0, 192, 448, 960, 0, 0, 6144, 14336, 30720, 63488, 131070, 262142, 524287, 1048575] [(0, false), (1, false), (2, false), (3, false), (4, false), (5, false), (6, false), (7, false), (8, false), (9, false), (10, false), (11, false), (12, false), (13, false), (14, false), (15, false), (16, false), (17, false), (18, true), (19, true), (20, false)] (by kernel_rfl) ?_
  intro K wD1 hK hwD1
  have M := M.drew hwD1
  obtain ⟨pd, cd, hrow, hbx⟩ := (h.new M.frm).row hx
  refine x_move rfl rfl rfl rfl ?_
  refine x_move rfl rfl rfl rfl ?_
  refine x_move rfl rfl rfl rfl ?_
  refine x_ia j rfl rfl rfl Tryz.underlying24 sz29 rfl rfl rfl (by omega) ?_
  refine x_fa rfl rfl rfl fo29_0 rfl ?_
  refine x_ld rfl rfl rfl Tryz.underlying9 rfl rfl (RowAt.cell hrow (j := 0) rfl) ?_
  refine x_move rfl rfl rfl rfl ?_
  refine x_move rfl rfl rfl rfl ?_
  refine x_ia j rfl rfl rfl Tryz.underlying24 sz29 rfl rfl rfl (by omega) ?_
  refine x_fa rfl rfl rfl fo29_1 rfl ?_
  refine x_ld rfl rfl rfl Tryz.underlying4 rfl rfl (RowAt.cell hrow (j := 1) rfl) ?_
  refine x_move rfl rfl rfl rfl ?_
  refine x_move rfl rfl rfl rfl ?_
  refine x_ia j rfl rfl rfl Tryz.underlying24 sz29 rfl rfl rfl (by omega) ?_
  refine x_fa rfl rfl rfl fo29_2 rfl ?_
  refine x_ld rfl rfl rfl Tryz.underlying27 rfl rfl (RowAt.cell hrow (j := 2) rfl) ?_
  refine x_len rfl rfl rfl rfl Tryz.underlying27 rfl ?_
  refine x_build [_, _, _] rfl rfl rfl pl26 ze26 rfl rfl rfl ?_
  refine x_bs1 (cs := [strV x.1, .bool x.2.1, .int .i64 (x.2.2.length : Int)]) rfl rfl rfl Tryz.underlying22 sz26 ze26 (Z := [_, _, _]) rfl rfl (by decide) (by decide) rfl rfl rfl ?_
  intro bbs1 wbs1 hbbs1 hwbs1
  have M0 := M.acons hbbs1 hwbs1
  have hslbs1 : Sl wbs1 (.slice (some ⟨bbs1, 0, none⟩) 1 1) 3 1 [strV x.1, .bool x.2.1, .int .i64 (x.2.2.length : Int)] := .inr ⟨bbs1, 0, 1, _, _, _, rfl, by omega, M0.at_ 0 rfl, rfl, rfl⟩
  have M := M0.tail
  refine ⟨⟨.inl (by kernel_rfl), .inl (by kernel_rfl), .inl (by kernel_rfl), trivial⟩, ?_⟩
  have M : Sep w0 (Lo ++ []) wbs1 := by rw [List.append_nil]; exact M
  refine x_apL rfl rfl rfl rfl Tryz.underlying22 sz26 ze26 rfl by26 rfl rfl how M (mCs_one _) (hslbs1.src Tryz.underlying22 (by intro u hu; simp at hu; rcases hu with rfl | rfl | rfl <;> rfl)) (by omega) (by decide) (by omega) ?_
  intro Lo2 v6 w6 how M
  rw [show [strV x.1, .bool x.2.1, .int .i64 (x.2.2.length : Int)] = [strV (metaR x).1, .bool (metaR x).2.1, .int .i64 (metaR x).2.2] from rfl, ← mCs_snoc, show (l.take j).map metaR ++ [metaR x] = (l.take (j + 1)).map metaR by rw [take_snoc hx, List.map_append]; rfl] at how
  refine ⟨⟨.inl (by kernel_rfl), .inl (by kernel_rfl), .inl (by kernel_rfl), trivial⟩, ?_⟩
  refine x_assign rfl rfl rfl rfl ?_
  refine Ex.done (hK _ _ ?_)
  refine At.blk_n ?_
  refine At.then_n ?_
  refine W.sub [(0, _), (3, _), (4, _)] ⟨rfl, rfl, rfl, trivial⟩ ?_
  refine W.reg [(0, false), (1, false), (2, false)] (by kernel_rfl) ?_
  intro K hK
  refine x_move rfl rfl rfl rfl ?_
  refine x_add _ rfl rfl rfl rfl rfl (wadd (by omega) (by omega)) ?_
  refine x_assign rfl rfl rfl rfl ?_
  refine Ex.done (hK _ _ ?_)
  exact At.back ((j + 1, v6, Lo2)) ⟨rfl, rfl, rfl, trivial⟩ ⟨by simp only; omega, how, by simpa using M⟩ (by first | omega | (simp only; omega) | (simp; done) | (simp; omega))
 ·try simp only [sA, sB, sC, sD, sE, sF, sG, sH, sI, sJ, sK, sL, sM, sN, sO] at hco1
  refine W.exit ?_
  refine At.then_x ?_
  refine At.loop_x ?_
  refine At.blk_x ?_
  refine At.then_n ?_
  refine W.seq ?_
  refine W.sub [(3, _)] ⟨rfl, trivial⟩ ?_
  refine W.reg [(0, false), (1, false)] (by kernel_rfl) ?_
  intro K hK
  refine x_move rfl rfl rfl rfl ?_
  refine x_assign rfl rfl rfl rfl ?_
  refine Ex.done (hK _ _ ?_)
  refine At.then_n ?_
  refine W.ret ?_
  refine At.ret1 (.tmp 2) rfl ⟨rfl, trivial⟩ ?_
  have hj2 : j = l.length := by omega
  subst hj2
  rw [List.take_length] at how
  exact ⟨Lo, by show OwL Lo _ 3 (l.map metaR).length _; rw [List.length_map]; exact how, M⟩
end Go.Proofs.YtigfbpbnohkokaaGreat
