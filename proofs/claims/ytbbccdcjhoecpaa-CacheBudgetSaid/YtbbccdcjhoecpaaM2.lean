/-
  The calls of a cache, by its list of blocks.
-/
import Derived.Test.YtbbccdcjhoecpaaM1
namespace Go.Proofs.Ytbbccdcjhoecpaa
open Go Go.Fw Go.RowKit Go.Proofs
set_option linter.unusedVariables false
set_option linter.unusedSimpArgs false

def keyM (M : List Blk) : List Value := M.flatMap fun m => [.string m.1.1, .int .i64 m.1.2]

theorem keyM_abs (N : List Nd) : keyM (absL N) = keyCells N := by
  induction N with
  | nil => rfl
  | cons n N ih => simp only [absL, List.map_cons, keyM, List.flatMap_cons, keyCells] at ih ⊢; rw [ih]; rfl

theorem getM_mid {A B : List Nd} {l : Nd} {k : Key} (hk : ((A ++ l :: B).map Nd.key).Nodup) (hl : l.key = k) : getM (absL (A ++ l :: B)) k = (absL (l :: (A ++ B)), some l.b) := by
  unfold getM
  rw [find_mid hk hl]
  subst hl
  simp only [wo_mid hk]
  rfl
theorem getM_none {L : List Nd} {k : Key} (h : ∀ n ∈ L, n.key ≠ k) : getM (absL L) k = (absL L, none) := by
  unfold getM
  rw [find_none h]

theorem split_key (N : List Nd) (k : Key) : (∀ n ∈ N, n.key ≠ k) ∨ ∃ A l B, N = A ++ l :: B ∧ l.key = k := by
  cases hf : (findK N k).isSome with
  | false => exact .inl (findK_none hf).1
  | true => obtain ⟨A, l, B, h1, h2, _⟩ := findK_some hf; exact .inr ⟨A, l, B, h1, h2⟩

theorem getM_tot {M : List Blk} {k : Key} (hk : (M.map (·.1)).Nodup) : totM (getM M k).1 = totM M ∧ ∀ m, m ∈ (getM M k).1 → m ∈ M := by
  unfold getM
  cases hf : M.find? fun m => m.1 = k with
  | none => exact ⟨rfl, fun _ h => h⟩
  | some m =>
    obtain ⟨h1, A, B, rfl, h2⟩ := List.find?_eq_some_iff_append.1 hf
    have h1 : m.1 = k := by simpa using h1
    subst h1
    have hp : (A ++ m :: B).Perm (m :: (A ++ B)) := List.perm_middle
    have hn := (hp.map (·.1)).nodup_iff.1 hk
    simp only [List.map_cons, List.nodup_cons] at hn
    have hwo : woM (A ++ m :: B) m.1 = A ++ B := by
      have g1 : ∀ x ∈ A ++ B, x.1 ≠ m.1 := fun x hx e => hn.1 (List.mem_map.2 ⟨x, hx, e⟩)
      unfold woM
      rw [List.filter_append, List.filter_cons]
      rw [List.filter_eq_self.2 (fun x hx => decide_eq_true (g1 x (by simp [hx]))), List.filter_eq_self.2 (fun x hx => decide_eq_true (g1 x (by simp [hx])))]
      simp
    simp only [hwo]
    refine ⟨?_, fun x hx => hp.mem_iff.2 hx⟩
    exact (perm_sum (hp.map fun m => (m.2.1.length : Int))).symm

section
variable {w0 w w1 : World} {L : List (Nat × Obj)} {c : Nat} {bud : Int} {M : List Blk}

theorem CS.keys (h : CS w0 L c bud M w) : (M.map (·.1)).Nodup := by
  obtain ⟨e, r, N, h1, rfl, _⟩ := h.cm
  have := h1.keys
  unfold absL
  rw [List.map_map]
  exact this

/-- A block that the cache does not hold. -/
theorem CS.own (h : CS w0 L c bud M w) {g : Nat} {o : Obj} (hg : w.heap[g]? = some o) (h0 : w0.heap.size ≤ g) (hL : g ∉ L.map (·.1)) (hc : ∀ e r N, CAt w c e r bud N → absL N = M → (∀ x ∈ fp c e r N, w0.heap.size ≤ x ∧ x ∉ L.map (·.1)) → ∃ e r N, CAt w c e r bud N ∧ absL N = M ∧ ∀ x ∈ fp c e r N, (w0.heap.size ≤ x ∧ x ∉ L.map (·.1)) ∧ x ≠ g) : CS w0 (L ++ [(g, o)]) c bud M w := by
  obtain ⟨e, r, N, h1, h2, h3⟩ := h.cm
  obtain ⟨e, r, N, h1, h2, h3⟩ := hc e r N h1 h2 h3
  refine ⟨?_, ⟨e, r, N, h1, h2, fun x hx => ?_⟩, h.bd, h.le, h.pins⟩
  · refine h.st.join (L' := [(g, o)]) ⟨h.st.size, h.st.old, by simp, fun x hx => by simp at hx; subst hx; exact ⟨hg, .inr h0⟩, h.st.os, h.st.tape, h.st.output⟩ (fun x hx y hy e1 => ?_)
    simp at hy
    subst hy
    exact hL (List.mem_map.2 ⟨x, hx, e1⟩)
  · obtain ⟨⟨g1, g2⟩, g3⟩ := h3 x hx
    refine ⟨g1, fun hm => ?_⟩
    simp at hm
    rcases hm with hm | hm
    · exact g2 (by simpa using hm)
    · exact g3 hm

theorem CS.opSize (h : CS w0 L c bud M w) : Ret Try.prog 15 #[ptr c] w fun v w' => v = .int .i64 (totM M) ∧ w = w' := by
  obtain ⟨e, r, N, h1, rfl, h3⟩ := h.cm
  rw [totM_abs]
  exact size_c h1

theorem CS.opKeys (h : CS w0 L c bud M w) (hlen : M.length ≤ 1000000) : Ret Try.prog 12 #[ptr c] w fun v w' => OwS w' v 2 M.length (keyM M) ∧ New w w' ∧ CS w0 L c bud M w' ∧ (∀ g, blkOf v = some g → w.heap.size ≤ g ∧ ∀ o, w'.heap[g]? = some o → CS w0 (L ++ [(g, o)]) c bud M w') := by
  obtain ⟨e, r, N, h1, h2, h3⟩ := h.cm
  have hl : N.length = M.length := by rw [← h2]; simp [absL]
  refine (keys_c h1 (by omega)).mono ?_
  rintro v w' ⟨g1, g2, g3⟩
  rw [← h2, keyM_abs]
  have hcs : CS w0 L c bud (absL N) w' := by rw [h2]; exact h.new g2
  refine ⟨by simpa [absL] using g1, g2, hcs, fun g hg => ⟨g3 g hg, fun o ho => ?_⟩⟩
  have hg0 := g3 g hg
  refine hcs.own ho (Nat.le_trans h.st.size hg0) (fun hm => ?_) (fun _ _ _ _ _ _ => ⟨e, r, N, h1.new g2, rfl, fun x hx => ⟨h3 x hx, by have := h1.lt x hx; omega⟩⟩)
  obtain ⟨y, hy, e1⟩ := List.mem_map.1 hm
  have := (Array.getElem?_eq_some_iff.1 (h.st.own y hy).1).1
  omega

theorem CS.opPins (h : CS w0 L c bud M w) (k : Key) : Ret Try.prog 22 #[ptr c, encK k] w fun v w' => v = .int .i64 (pinsM M k) ∧ CS w0 L c bud M w' := by
  obtain ⟨e, r, N, h1, rfl, h3⟩ := h.cm
  rcases split_key N k with hk | ⟨A, l, B, rfl, hk⟩
  · refine (pins_none h1 hk).mono ?_
    rintro v w' ⟨rfl, hn⟩
    refine ⟨?_, h.new hn⟩
    unfold pinsM
    rw [find_none hk]; rfl
  · refine (pins_some h1 hk).mono ?_
    rintro v w' ⟨rfl, hn⟩
    refine ⟨?_, h.new hn⟩
    unfold pinsM
    rw [find_mid h1.keys hk]; rfl

theorem fp_perm_sub {e r : Nat} {N N' : List Nd} (hp : N.Perm N') {x : Nat} (h : x ∈ fp c e r N') : x ∈ fp c e r N := (perm_fp hp).mem_iff.2 h

theorem CS.opGet (h : CS w0 L c bud M w) (k : Key) : Ret Try.prog 16 #[ptr c, encK k] w fun v w' => CS w0 L c bud (getM M k).1 w' ∧ match (getM M k).2 with
    | none => v = .tuple #[.slice none 0 0, .bool false]
    | some b => ∃ sv, v = .tuple #[sv, .bool true] ∧ BytesAt w' sv b ∧ b.length ≤ 4096 ∧ ∀ g, blkOf sv = some g → w.heap.size ≤ g ∧ ∀ o, w'.heap[g]? = some o → CS w0 (L ++ [(g, o)]) c bud (getM M k).1 w' := by
  have hkeys := h.keys
  obtain ⟨e, r, N, h1, rfl, h3⟩ := h.cm
  have hgt := getM_tot (k := k) hkeys
  rcases split_key N k with hk | ⟨A, l, B, rfl, hk⟩
  · refine (get_none h1 hk).mono ?_
    rintro v w' ⟨rfl, hn⟩
    rw [getM_none hk]
    exact ⟨h.new hn, rfl⟩
  · refine (get_some h1 hk).mono ?_
    rintro v w' ⟨sv, rfl, g1, g2, g3, g4⟩
    rw [getM_mid h1.keys hk] at hgt ⊢
    have hcs : CS w0 L c bud (absL (l :: (A ++ B))) w' := h.turn h1 h3 (Frm.sub g4 (fun b hb => hb.fp)) g3 (fun x hx => .inl (fp_perm_sub (mid_perm A B l) hx)) h.bd rfl (by rw [hgt.1]; exact h.le) (fun m hm => h.pins m (hgt.2 m hm))
    refine ⟨hcs, sv, rfl, g1, h1.len l (by simp), fun g hg => ⟨g2 g hg, fun o ho => ?_⟩⟩
    have hg0 := g2 g hg
    refine hcs.own ho (Nat.le_trans h.st.size hg0) (fun hm => ?_) (fun _ _ _ _ _ _ => ⟨e, r, _, g3, rfl, fun x hx => ?_⟩)
    · obtain ⟨y, hy, e1⟩ := List.mem_map.1 hm
      have := (Array.getElem?_eq_some_iff.1 (h.st.own y hy).1).1
      omega
    · have h5 := fp_perm_sub (mid_perm A B l) hx
      have := h1.lt x h5
      exact ⟨h3 x h5, by omega⟩

theorem map_mid {A B : List Nd} {l : Nd} {k : Key} (hk : ((A ++ l :: B).map Nd.key).Nodup) (hl : l.key = k) (q : Int) : ((absL (A ++ l :: B)).map fun x => if x.1 = k then (x.1, x.2.1, x.2.2 + q) else x) = absL (A ++ { l with pins := l.pins + q } :: B) := by
  subst hl
  have h := ((mid_perm A B l).map Nd.key).nodup_iff.1 hk
  simp only [List.map_cons, List.nodup_cons] at h
  have hne : ∀ n ∈ A ++ B, n.key ≠ l.key := fun n hn e => h.1 (List.mem_map.2 ⟨n, hn, e⟩)
  have hm : ∀ X : List Nd, (∀ n ∈ X, n ∈ A ++ B) → ((absL X).map fun x => if x.1 = l.key then (x.1, x.2.1, x.2.2 + q) else x) = absL X := fun X hX => by
    unfold absL
    rw [List.map_map]
    refine List.map_congr_left fun n hn => ?_
    simp only [Function.comp]
    rw [if_neg (show ¬ (absN n).1 = l.key from hne n (hX n hn))]
  have h1 : absL (A ++ l :: B) = absL A ++ absN l :: absL B := by simp [absL]
  have h2 : absL (A ++ { l with pins := l.pins + q } :: B) = absL A ++ absN { l with pins := l.pins + q } :: absL B := by simp [absL]
  have h3 : (absN l).1 = l.key := rfl
  rw [h1, h2, List.map_append, List.map_cons, hm A (fun n hn => by simp [hn]), hm B (fun n hn => by simp [hn]), if_pos h3]
  rfl

theorem pin_any {by' : Int} {f : FuncId} (hby : by' = 1 ∨ by' = -1)
    (hN : ∀ {w : World} {c e r : Nat} {bud : Int} {L : List Nd} {k : Key}, CAt w c e r bud L → (∀ n ∈ L, n.key ≠ k) → Ret Try.prog f #[ptr c, encK k] w fun v w' => v = .int .i64 9 ∧ New w w')
    (hS : ∀ {w : World} {c e r : Nat} {bud : Int} {A B : List Nd} {l : Nd} {k : Key}, CAt w c e r bud (A ++ l :: B) → l.key = k → 0 ≤ l.pins ∧ l.pins < 1000000000 → Ret Try.prog f #[ptr c, encK k] w fun v w' => (l.pins + by' < 0 ∧ v = .int .i64 2 ∧ New w w') ∨ (0 ≤ l.pins + by' ∧ v = .int .i64 0 ∧ CAt w' c e r bud (A ++ { l with pins := l.pins + by' } :: B) ∧ Frm (fun b => b = l.id) w w'))
    (h : CS w0 L c bud M w) (k : Key) (hp : ∀ m ∈ M, m.2.2 < 1000000000) : Ret Try.prog f #[ptr c, encK k] w fun v w' => v = .int .i64 (pinM M k by').2 ∧ CS w0 L c bud (pinM M k by').1 w' := by
  obtain ⟨e, r, N, h1, rfl, h3⟩ := h.cm
  rcases split_key N k with hk | ⟨A, l, B, rfl, hk⟩
  · refine (hN h1 hk).mono ?_
    rintro v w' ⟨rfl, hn⟩
    have : pinM (absL N) k by' = (absL N, 9) := by unfold pinM; rw [find_none hk]
    rw [this]
    exact ⟨rfl, h.new hn⟩
  · have hlm : absN l ∈ absL (A ++ l :: B) := List.mem_map.2 ⟨l, by simp, rfl⟩
    refine (hS h1 hk ⟨h.pins _ hlm, hp _ hlm⟩).mono ?_
    have hf := find_mid h1.keys hk
    rintro v w' (⟨g1, rfl, hn⟩ | ⟨g1, rfl, g3, g4⟩)
    · have : pinM (absL (A ++ l :: B)) k by' = (absL (A ++ l :: B), 2) := by unfold pinM; rw [hf]; simp only; rw [if_pos (show (absN l).2.2 + by' < 0 from g1)]
      rw [this]
      exact ⟨rfl, h.new hn⟩
    · have e1 : pinM (absL (A ++ l :: B)) k by' = (absL (A ++ { l with pins := l.pins + by' } :: B), 0) := by
        unfold pinM; rw [hf]; simp only
        rw [if_neg (show ¬ (absN l).2.2 + by' < 0 by show ¬ l.pins + by' < 0; omega), map_mid h1.keys hk]
      rw [e1]
      refine ⟨rfl, h.turn h1 h3 (Frm.sub g4 (fun b hb => by rw [hb]; exact InRing.fp (by simp [InRing, ids]))) g3 (fun x hx => .inl ?_) h.bd rfl ?_ (fun m hm => ?_)⟩
      · have i1 : ids (A ++ { l with pins := l.pins + by' } :: B) = ids (A ++ l :: B) := by simp [ids]
        have i2 : blks (A ++ { l with pins := l.pins + by' } :: B) = blks (A ++ l :: B) := by simp only [blks, List.filterMap_append, List.filterMap_cons]
        unfold fp at hx ⊢
        rw [i1, i2] at hx
        exact hx
      · have := h.le
        rw [totM_abs] at this ⊢
        have e2 : tot (A ++ { l with pins := l.pins + by' } :: B) = tot (A ++ l :: B) := by simp [tot]
        rw [e2]; exact this
      · obtain ⟨n, hn, rfl⟩ := List.mem_map.1 hm
        simp only [List.mem_append, List.mem_cons] at hn
        rcases hn with hn | rfl | hn
        · exact h.pins _ (List.mem_map.2 ⟨n, by simp [hn], rfl⟩)
        · exact g1
        · exact h.pins _ (List.mem_map.2 ⟨n, by simp [hn], rfl⟩)

theorem CS.opPin (h : CS w0 L c bud M w) (k : Key) (hp : ∀ m ∈ M, m.2.2 < 1000000000) : Ret Try.prog 20 #[ptr c, encK k] w fun v w' => v = .int .i64 (pinM M k 1).2 ∧ CS w0 L c bud (pinM M k 1).1 w' :=
  pin_any (.inl rfl) pinP_none pinP_some h k hp
theorem CS.opUnpin (h : CS w0 L c bud M w) (k : Key) (hp : ∀ m ∈ M, m.2.2 < 1000000000) : Ret Try.prog 21 #[ptr c, encK k] w fun v w' => v = .int .i64 (pinM M k (-1)).2 ∧ CS w0 L c bud (pinM M k (-1)).1 w' :=
  pin_any (.inr rfl) unpin_none unpin_some h k hp

theorem totM_sub (M : List Blk) (q : Blk → Bool) : totM (M.filter q) ≤ totM M := by
  induction M with
  | nil => exact Int.le_refl _
  | cons m M ih =>
    unfold totM at *
    rw [List.filter_cons]
    split <;> simp only [List.map_cons, List.sum_cons] <;> omega

theorem CS.opDrop (h : CS w0 L c bud M w) (f : ByteArray) (hlen : M.length ≤ 1000000) : Ret Try.prog 23 #[ptr c, .string f] w fun v w' => v = .int .i64 ((M.length - (dropM M f).length : Nat) : Int) ∧ CS w0 L c bud (dropM M f) w' := by
  obtain ⟨e, r, N, h1, rfl, h3⟩ := h.cm
  have e1 : dropM (absL N) f = absL (notIn N f) := by
    unfold dropM absL notIn
    rw [List.filter_map]; rfl
  have hle := h.le
  refine (drop_c (f := f) h1 (by simpa [absL] using hlen)).mono ?_
  rintro v w' ⟨rfl, g1, g2⟩
  rw [e1]
  refine ⟨by simp [absL], h.turn h1 h3 g2 g1 (fun x hx => .inl (fp_sub (fun n hn => notIn_mem hn) x hx)) h.bd rfl ?_ (fun m hm => ?_)⟩
  · rw [← e1]; exact Int.le_trans (totM_sub _ _) hle
  · obtain ⟨n, hn, rfl⟩ := List.mem_map.1 hm
    exact h.pins _ (List.mem_map.2 ⟨n, notIn_mem hn, rfl⟩)

/-- New. -/
theorem opNew {w0 w : World} {L : List (Nat × Obj)} {bud : Int} (h : St None' w0 L w) (hb : 0 ≤ bud ∧ bud ≤ 1048576) : Ret Try.prog 9 #[.int .i64 bud] w fun v w' => ∃ c, v = .tuple #[ptr c, .int .i64 0] ∧ CS w0 L c bud [] w' := by
  refine (new_ok hb).mono ?_
  rintro v w' ⟨c, e, r, rfl, g1, g2, g3⟩
  refine ⟨c, rfl, h.new g2, ⟨e, r, [], g1, rfl, fun x hx => ⟨Nat.le_trans h.size (g3 x hx), fun hm => ?_⟩⟩, hb, by simpa [totM] using hb.1, by simp⟩
  obtain ⟨y, hy, rfl⟩ := List.mem_map.1 hm
  have := (Array.getElem?_eq_some_iff.1 (h.own y hy).1).1
  have := g3 _ hx
  omega
end
end Go.Proofs.Ytbbccdcjhoecpaa
