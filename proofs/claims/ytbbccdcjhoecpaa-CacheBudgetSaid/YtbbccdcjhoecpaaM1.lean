/-
  The cache as a list of blocks; the cache beside blocks of one's own.
-/
import Derived.Test.YtbbccdcjhoecpaaW9
import Derived.Test.YtbbccdcjhoecpaaW10
import Derived.Test.YtbbccdcjhoecpaaW6
import Derived.Test.YtbbccdcjhoecpaaW8
namespace Go.Proofs.Ytbbccdcjhoecpaa
open Go Go.Fw Go.RowKit Go.Proofs
set_option linter.unusedVariables false
set_option linter.unusedSimpArgs false

/-- A block: its key, its bytes, its pins. -/
abbrev Blk := Key × List UInt8 × Int
def absN (n : Nd) : Blk := (n.key, n.b, n.pins)
def absL (L : List Nd) : List Blk := L.map absN
def totM (M : List Blk) : Int := (M.map fun m => (m.2.1.length : Int)).sum
def heldM (M : List Blk) (k : Key) : Int := (M.map fun m => if 0 < m.2.2 ∧ m.1 ≠ k then (m.2.1.length : Int) else 0).sum
def evictM (bud : Int) : List Blk → List Blk → List Blk
  | [], K => K
  | x :: P, K => if totM ((x :: P).reverse ++ K) ≤ bud then (x :: P).reverse ++ K else if P ≠ [] ∧ x.2.2 = 0 then evictM bud P K else evictM bud P (x :: K)
def woM (M : List Blk) (k : Key) : List Blk := M.filter fun m => m.1 ≠ k
def pinsM (M : List Blk) (k : Key) : Int := ((M.find? fun m => m.1 = k).map fun m => m.2.2).getD 0
def putM (bud : Int) (M : List Blk) (k : Key) (b : List UInt8) : List Blk × Int :=
  if 4096 < b.length then (M, 2) else if bud < heldM M k + b.length then (M, 7) else (evictM bud ((k, b, pinsM M k) :: woM M k).reverse [], 0)
def getM (M : List Blk) (k : Key) : List Blk × Option (List UInt8) :=
  match M.find? fun m => m.1 = k with
  | none => (M, none)
  | some m => (m :: woM M k, some m.2.1)
def pinM (M : List Blk) (k : Key) (q : Int) : List Blk × Int :=
  match M.find? fun m => m.1 = k with
  | none => (M, 9)
  | some m => if m.2.2 + q < 0 then (M, 2) else (M.map fun x => if x.1 = k then (x.1, x.2.1, x.2.2 + q) else x, 0)
def dropM (M : List Blk) (f : ByteArray) : List Blk := M.filter fun m => m.1.1 ≠ f

theorem totM_abs (L : List Nd) : totM (absL L) = tot L := by
  unfold totM absL tot; rw [List.map_map]; rfl
theorem heldM_abs (L : List Nd) (k : Key) : heldM (absL L) k = heldOf L k := by
  unfold heldM absL heldOf; rw [List.map_map]; rfl
theorem absL_app (A B : List Nd) : absL (A ++ B) = absL A ++ absL B := by simp [absL]
theorem evictM_abs (bud : Int) : ∀ (P K : List Nd), evictM bud (absL P) (absL K) = absL (evict bud P K)
  | [], K => rfl
  | x :: P, K => by
    have h1 : (absL (x :: P)).reverse ++ absL K = absL ((x :: P).reverse ++ K) := by simp [absL]
    have h2 : absL (x :: P) = absN x :: absL P := rfl
    unfold evict
    rw [h2]
    unfold evictM
    rw [← h2, h1, totM_abs]
    split
    · rfl
    · have h3 : (absL P ≠ [] ∧ (absN x).2.2 = 0) ↔ (P ≠ [] ∧ x.pins = 0) := by simp [absL, absN]
      by_cases h4 : P ≠ [] ∧ x.pins = 0
      · rw [if_pos h4, if_pos (h3.2 h4)]; exact evictM_abs bud P K
      · rw [if_neg h4, if_neg (fun h => h4 (h3.1 h))]; exact evictM_abs bud P (x :: K)

theorem wo_mid {A B : List Nd} {l : Nd} (hk : ((A ++ l :: B).map Nd.key).Nodup) : woM (absL (A ++ l :: B)) l.key = absL (A ++ B) := by
  have h := ((mid_perm A B l).map Nd.key).nodup_iff.1 hk
  simp only [List.map_cons, List.nodup_cons] at h
  have hne : ∀ n ∈ A ++ B, n.key ≠ l.key := fun n hn e => h.1 (List.mem_map.2 ⟨n, hn, e⟩)
  have hA : woM (absL A) l.key = absL A := List.filter_eq_self.2 fun m hm => by
    obtain ⟨n, hn, rfl⟩ := List.mem_map.1 hm
    exact decide_eq_true (show (absN n).1 ≠ l.key from hne n (by simp [hn]))
  have hB : woM (absL B) l.key = absL B := List.filter_eq_self.2 fun m hm => by
    obtain ⟨n, hn, rfl⟩ := List.mem_map.1 hm
    exact decide_eq_true (show (absN n).1 ≠ l.key from hne n (by simp [hn]))
  have h1 : absL (A ++ l :: B) = absL A ++ absN l :: absL B := by simp [absL]
  have h2 : (absN l).1 = l.key := rfl
  rw [h1, absL_app]
  unfold woM at hA hB ⊢
  rw [List.filter_append, List.filter_cons, hA, hB]
  simp [h2]

theorem wo_none {L : List Nd} {k : Key} (h : ∀ n ∈ L, n.key ≠ k) : woM (absL L) k = absL L := List.filter_eq_self.2 fun m hm => by
  obtain ⟨n, hn, rfl⟩ := List.mem_map.1 hm
  exact decide_eq_true (show (absN n).1 ≠ k from h n hn)

theorem findM_abs (L : List Nd) (k : Key) : (absL L).find? (fun m => m.1 = k) = (L.find? fun n => n.key = k).map absN := by
  unfold absL; rw [List.find?_map]; rfl

theorem find_none {L : List Nd} {k : Key} (h : ∀ n ∈ L, n.key ≠ k) : (absL L).find? (fun m => m.1 = k) = none := by
  rw [findM_abs, List.find?_eq_none.2 (fun n hn => by simpa using h n hn)]; rfl

theorem find_mid {A B : List Nd} {l : Nd} {k : Key} (hk : ((A ++ l :: B).map Nd.key).Nodup) (hl : l.key = k) : (absL (A ++ l :: B)).find? (fun m => m.1 = k) = some (absN l) := by
  subst hl
  rw [findM_abs]
  have h := ((mid_perm A B l).map Nd.key).nodup_iff.1 hk
  simp only [List.map_cons, List.nodup_cons] at h
  have : (A ++ l :: B).find? (fun n => decide (n.key = l.key)) = some l := by
    rw [List.find?_append, List.find?_eq_none.2 (fun n hn hd => h.1 (List.mem_map.2 ⟨n, by simp [hn], of_decide_eq_true hd⟩))]
    simp
  rw [this]; rfl

theorem PutAt.wo {L A B : List Nd} {k : Key} {l : Nd} (h : PutAt L k A B l) (hk : (L.map Nd.key).Nodup) : woM (absL L) k = absL (A ++ B) ∧ pinsM (absL L) k = l.pins := by
  rcases h with ⟨rfl, rfl⟩ | ⟨rfl, rfl, _, _, _, _, h5, h6⟩
  · refine ⟨wo_mid hk, ?_⟩
    unfold pinsM
    rw [find_mid hk rfl]; rfl
  · refine ⟨wo_none h6, ?_⟩
    unfold pinsM
    rw [find_none h6, h5]; rfl

/-- A cache, beside blocks of one's own; all were made behind w0. -/
structure CS (w0 : World) (L : List (Nat × Obj)) (c : Nat) (bud : Int) (M : List Blk) (w : World) : Prop where
  st : St None' w0 L w
  cm : ∃ e r N, CAt w c e r bud N ∧ absL N = M ∧ ∀ x ∈ fp c e r N, w0.heap.size ≤ x ∧ x ∉ L.map (·.1)
  bd : 0 ≤ bud ∧ bud ≤ 1048576
  le : totM M ≤ bud
  pins : ∀ m ∈ M, 0 ≤ m.2.2

section
variable {w0 w w1 : World} {L : List (Nat × Obj)} {c : Nat} {bud : Int} {M : List Blk}

theorem CS.at_ (h : CS w0 L c bud M w) (k : Nat) {b : Nat} {o : Obj} (hk : L[k]? = some (b, o)) : w.heap[b]? = some o := h.st.at_ k hk
theorem CS.frm (h : CS w0 L c bud M w) : New w0 w := h.st.frm

/-- What turns neither the cache nor what lay there. -/
theorem CS.step {L' : List (Nat × Obj)} (h : CS w0 L c bud M w) (hs : St None' w0 L' w1) (hk : ∀ x, x < w.heap.size → x ∉ L.map (·.1) → w1.heap[x]? = w.heap[x]?) (hL : ∀ x ∈ L'.map (·.1), x ∈ L.map (·.1) ∨ w.heap.size ≤ x) : CS w0 L' c bud M w1 := by
  obtain ⟨e, r, N, h1, h2, h3⟩ := h.cm
  refine ⟨hs, ⟨e, r, N, h1.same fun b hb => hk b (h1.lt b hb) (h3 b hb).2, h2, fun x hx => ⟨(h3 x hx).1, fun hm => ?_⟩⟩, h.bd, h.le, h.pins⟩
  rcases hL x hm with h4 | h4
  · exact (h3 x hx).2 h4
  · have := h1.lt x hx; omega

theorem CS.drew (h : CS w0 L c bud M w) (hw : w1 = w.drew) : CS w0 L c bud M w1 := h.step (h.st.drew hw) (fun x _ _ => hp_drew hw x) (fun x hx => .inl hx)
theorem CS.alloc (h : CS w0 L c bud M w) {o : Obj} {b : Nat} (hb : b = w.heap.size) (hw : w1 = w.alloc o) : CS w0 (L ++ [(b, o)]) c bud M w1 :=
  h.step (h.st.alloc hb hw) (fun x hx _ => by rw [hw, heap_alloc, if_neg (by omega)]) (fun x hx => by simp at hx ⊢; rcases hx with hx | hx; exact .inl hx; exact .inr (by omega))
theorem CS.put (h : CS w0 L c bud M w) (k : Nat) {b : Nat} {o0 o : Obj} (hk : L[k]? = some (b, o0)) (hw : w1 = w.putObj b o) : CS w0 (L.set k (b, o)) c bud M w1 :=
  h.step (h.st.put k hk hw) (fun x _ hx => hp_put hw (fun e => hx (e ▸ List.mem_map.2 ⟨_, List.mem_of_getElem? hk, rfl⟩))) (fun x hx => .inl (by
    obtain ⟨y, hy, rfl⟩ := List.mem_map.1 hx
    rcases List.mem_or_eq_of_mem_set hy with h1 | rfl
    · exact List.mem_map.2 ⟨y, h1, rfl⟩
    · exact List.mem_map.2 ⟨_, List.mem_of_getElem? hk, rfl⟩))
theorem CS.new (h : CS w0 L c bud M w) (hn : New w w1) : CS w0 L c bud M w1 := h.step (h.st.new hn) (fun x hx _ => hn.old x hx id) (fun x hx => .inl hx)
theorem CS.grow {L' : List (Nat × Obj)} (h : CS w0 L c bud M w) (hn : St None' w L' w1) : CS w0 (L ++ L') c bud M w1 :=
  h.step (h.st.grow hn) (fun x hx _ => hn.old x hx id) (fun x hx => by
    rw [List.map_append, List.mem_append] at hx
    refine hx.imp id fun h1 => ?_
    obtain ⟨y, hy, rfl⟩ := List.mem_map.1 h1
    exact (hn.own y hy).2.resolve_left id)
theorem CS.sub {L' : List (Nat × Obj)} (h : CS w0 L c bud M w) (hs : L'.Sublist L) : CS w0 L' c bud M w :=
  ⟨h.st.sub hs, let ⟨e, r, N, h1, h2, h3⟩ := h.cm; ⟨e, r, N, h1, h2, fun x hx => ⟨(h3 x hx).1, fun hm => (h3 x hx).2 ((hs.map _).subset hm)⟩⟩, h.bd, h.le, h.pins⟩

/-- Behind a call that turns the cache alone. -/
theorem CS.turn {e r : Nat} {N N' : List Nd} {bud : Int} {M' : List Blk} (h : CS w0 L c bud M w) (h1 : CAt w c e r bud N) (h3 : ∀ x ∈ fp c e r N, w0.heap.size ≤ x ∧ x ∉ L.map (·.1))
    (hF : Frm (InC c e r N) w w1) (hc : CAt w1 c e r bud N') (hfp : ∀ x ∈ fp c e r N', x ∈ fp c e r N ∨ w.heap.size ≤ x) (hb : 0 ≤ bud ∧ bud ≤ 1048576) (hM : absL N' = M') (hle : totM M' ≤ bud) (hp : ∀ m ∈ M', 0 ≤ m.2.2) : CS w0 L c bud M' w1 := by
  refine ⟨h.st.call hF (fun x hx hi => (h3 x.1 hi).2 (List.mem_map.2 ⟨x, hx, rfl⟩)) (fun b hb hlt => .inr (h3 b hb).1), ⟨e, r, N', hc, hM, fun x hx => ?_⟩, hb, hle, hp⟩
  rcases hfp x hx with h4 | h4
  · exact h3 x h4
  · refine ⟨Nat.le_trans h.st.size h4, fun hm => ?_⟩
    obtain ⟨y, hy, rfl⟩ := List.mem_map.1 hm
    have := (Array.getElem?_eq_some_iff.1 (h.st.own y hy).1).1
    omega

theorem evictM_sub (bud : Int) : ∀ (P K : List Blk), ∀ n ∈ evictM bud P K, n ∈ P.reverse ++ K
  | [], K, n, h => by simpa [evictM] using h
  | x :: P, K, n, h => by
    unfold evictM at h
    split at h
    · exact h
    · split at h
      · have := evictM_sub bud P K n h
        simp only [List.reverse_cons, List.mem_append, List.mem_singleton] at this ⊢
        rcases this with h1 | h1
        · exact .inl (.inl h1)
        · exact .inr h1
      · have := evictM_sub bud P (x :: K) n h
        simpa using this

theorem evictM_le (bud : Int) (l : Blk) : ∀ (P : List Blk) (K : List Blk), (∀ n ∈ P ++ K, 0 ≤ n.2.2) → (∀ n ∈ K, 0 < n.2.2) → (l.2.1.length : Int) + ((P ++ K).map fun n => if 0 < n.2.2 then (n.2.1.length : Int) else 0).sum ≤ bud → totM (evictM bud (P ++ [l]) K) ≤ bud
  | [], K, hp, hK, hle => by
    have e1 : (K.map fun n => if 0 < n.2.2 then (n.2.1.length : Int) else 0) = K.map fun n => (n.2.1.length : Int) := List.map_congr_left fun n hn => by rw [if_pos (hK n hn)]
    simp only [List.nil_append] at hle ⊢
    rw [e1] at hle
    unfold evictM
    have ht : totM ([l].reverse ++ K) ≤ bud := by simp only [List.reverse_singleton, List.singleton_append, totM, List.map_cons, List.sum_cons]; exact hle
    rw [if_pos ht]; exact ht
  | x :: P, K, hp, hK, hle => by
    rw [List.cons_append]
    unfold evictM
    split
    · assumption
    · split
      · rename_i h1 h2
        refine evictM_le bud l P K (fun n hn => hp n (by simp at hn ⊢; exact .inr hn)) hK ?_
        simp only [List.cons_append, List.map_cons, List.sum_cons, h2.2, Int.lt_irrefl, if_false] at hle
        omega
      · rename_i h1 h2
        have hx : 0 < x.2.2 := by
          have h3 := hp x (by simp)
          have : ¬ x.2.2 = 0 := fun h4 => h2 ⟨by simp, h4⟩
          omega
        refine evictM_le bud l P (x :: K) (fun n hn => hp n (by simp at hn ⊢; rcases hn with h | h | h <;> simp [h])) (fun n hn => ?_) ?_
        · rcases List.mem_cons.1 hn with rfl | hn
          · exact hx
          · exact hK n hn
        · have e2 : ∀ (g : Blk → Int), ((P ++ x :: K).map g).sum = (((x :: P) ++ K).map g).sum := fun g => by
            refine perm_sum (List.Perm.map g ?_)
            exact List.perm_middle
          rw [e2]; exact hle

theorem heldM_wo (M : List Blk) (k : Key) : heldM M k = ((woM M k).map fun n => if 0 < n.2.2 then (n.2.1.length : Int) else 0).sum := by
  induction M with
  | nil => rfl
  | cons m M ih =>
    unfold heldM woM at *
    simp only [List.map_cons, List.sum_cons, List.filter_cons]
    by_cases h : m.1 = k
    · simp only [h, ne_eq, not_true_eq_false, and_false, if_false, decide_false, Bool.false_eq_true]; rw [← ih]; simp
    · simp only [h, ne_eq, not_false_eq_true, and_true, decide_true, if_true, List.map_cons, List.sum_cons]; rw [← ih]

theorem pinsM_nn {M : List Blk} (h : ∀ m ∈ M, 0 ≤ m.2.2) (k : Key) : 0 ≤ pinsM M k := by
  unfold pinsM
  cases hf : M.find? fun m => m.1 = k with
  | none => exact Int.le_refl _
  | some m => exact h m (List.mem_of_find?_eq_some hf)

theorem putM_le {bud : Int} {M : List Blk} {k : Key} {b : List UInt8} (hle : totM M ≤ bud) (hp : ∀ m ∈ M, 0 ≤ m.2.2) : totM (putM bud M k b).1 ≤ bud ∧ ∀ m ∈ (putM bud M k b).1, 0 ≤ m.2.2 := by
  unfold putM
  split
  · exact ⟨hle, hp⟩
  · split
    · exact ⟨hle, hp⟩
    · rename_i h1 h2
      have hwo : ∀ m ∈ woM M k, 0 ≤ m.2.2 := fun m hm => hp m (List.mem_filter.1 hm).1
      refine ⟨?_, fun m hm => ?_⟩
      · rw [List.reverse_cons]
        refine evictM_le bud (k, b, pinsM M k) _ [] (fun n hn => hwo n (by simpa using hn)) (by simp) ?_
        have e1 : ((woM M k).reverse.map fun n => if 0 < n.2.2 then (n.2.1.length : Int) else 0).sum = heldM M k := by
          rw [heldM_wo]
          exact perm_sum (List.Perm.map _ (List.reverse_perm _))
        rw [List.append_nil, e1]
        simp only
        omega
      · have := evictM_sub _ _ _ m hm
        simp only [List.reverse_reverse, List.append_nil, List.mem_cons] at this
        rcases this with rfl | h3
        · exact pinsM_nn hp k
        · exact hwo m h3

/-- Put. -/
theorem CS.opPut (h : CS w0 L c bud M w) {k : Key} {sv : Value} {b : List UInt8} (hb : BytesIn w sv b) (hblk : b ≠ [] → ∀ g, blkOf sv = some g → g < w0.heap.size ∨ g ∈ L.map (·.1)) (hlen : b.length ≤ 1099511627776) :
    Ret Try.prog 10 #[ptr c, encK k, sv] w fun v w' => v = .int .i64 (putM bud M k b).2 ∧ CS w0 L c bud (putM bud M k b).1 w' := by
  obtain ⟨e, r, N, h1, rfl, h3⟩ := h.cm
  have hle := h.le
  refine (put_c h1 hb (fun hne g hg hm => ?_) hlen h.bd (by rw [← totM_abs]; exact hle)).mono ?_
  · rcases hblk hne g hg with h4 | h4
    · have := (h3 g hm).1; omega
    · exact (h3 g hm).2 h4
  · have hpl := putM_le (k := k) (b := b) hle h.pins
    rintro v w' (⟨g1, rfl, hn⟩ | ⟨g1, g2, rfl, hn⟩ | ⟨g1, g2, rfl, A, B, l1, l2, hput, g3, g4, g5, g6, hc, hF, hfp⟩)
    · have : putM bud (absL N) k b = (absL N, 2) := by unfold putM; rw [if_pos g1]
      rw [this]; exact ⟨rfl, h.new hn⟩
    · have : putM bud (absL N) k b = (absL N, 7) := by unfold putM; rw [if_neg (by omega), if_pos (by rw [heldM_abs]; exact g2)]
      rw [this]; exact ⟨rfl, h.new hn⟩
    · have hwo := hput.wo h1.keys
      have e1 : absL (l2 :: (A ++ B)) = (k, b, pinsM (absL N) k) :: woM (absL N) k := by
        rw [hwo.1, hwo.2]
        show absN l2 :: _ = _
        unfold absN
        rw [g5, g6]
        congr 2
        exact Prod.ext g3 g4
      have e2 : putM bud (absL N) k b = (absL (evict bud (l2 :: (A ++ B)).reverse []), 0) := by
        unfold putM
        rw [if_neg (by omega), if_neg (by rw [heldM_abs]; omega), ← evictM_abs, ← e1]
        simp [absL]
      rw [e2] at hpl ⊢
      refine ⟨rfl, h.turn h1 h3 hF hc (fun x hx => hfp x (fp_sub (fun n hn => ?_) x hx)) h.bd rfl hpl.1 hpl.2⟩
      have := evict_sub _ _ _ n hn
      simpa using this
end
end Go.Proofs.Ytbbccdcjhoecpaa
