/-
  A cache in memory.
-/
import Derived.Test.YtbbccdcjhoecpaaP2
import Derived.Test.YtbbccdcjhoecpaaW3
import Derived.Test.YtbbccdcjhoecpaaK1
namespace Go.Proofs.Ytbbccdcjhoecpaa
open Go Go.Fw Go.RowKit Go.Proofs
set_option linter.unusedVariables false
set_option linter.unusedSimpArgs false

abbrev Nd.key (n : Nd) : Key := (n.f, n.i)
def byteV (x : UInt8) : Value := .int .u8 (x.toNat : Int)
def BytesAt (w : World) (sv : Value) (b : List UInt8) : Prop := Sl w sv 1 b.length (b.map byteV)
def tot (L : List Nd) : Int := (L.map fun n => (n.b.length : Int)).sum
def blks (L : List Nd) : List Nat := L.filterMap fun n => blkOf n.sv
def fp (c e r : Nat) (L : List Nd) : List Nat := c :: e :: r :: (ids L ++ blks L)
/-- What a cache may turn. -/
abbrev InC (c e r : Nat) (L : List Nd) : Nat → Prop := fun b => b ∈ fp c e r L

structure CAt (w : World) (c e r : Nat) (bud : Int) (L : List Nd) : Prop where
  hc : w.heap[c]? = some (.cells [.int .i64 bud, .int .i64 (tot L), ptr e, .map (some r)].toArray 63 (0, 0))
  ring : Ring w e L
  mp : ∃ o g, w.heap[r]? = some o ∧ MapF encK o g ∧ ∀ k v, g k = some v ↔ ∃ n ∈ L, n.key = k ∧ v = ptr n.id
  bs : ∀ n ∈ L, BytesAt w n.sv n.b
  nd : (fp c e r L).Nodup
  keys : (L.map Nd.key).Nodup
  len : ∀ n ∈ L, n.b.length ≤ 4096
  sz : tot L ≤ 2097152

theorem tot_app (A B : List Nd) : tot (A ++ B) = tot A + tot B := by simp [tot]
theorem tot_cons (l : Nd) (B : List Nd) : tot (l :: B) = l.b.length + tot B := by simp [tot]
theorem blks_app (A B : List Nd) : blks (A ++ B) = blks A ++ blks B := by simp [blks]

theorem mem_blks {L : List Nd} {n : Nd} (h : n ∈ L) {b : Nat} (hb : blkOf n.sv = some b) : b ∈ blks L := List.mem_filterMap.2 ⟨n, h, hb⟩
theorem mem_ids {L : List Nd} {n : Nd} (h : n ∈ L) : n.id ∈ ids L := List.mem_map.2 ⟨n, h, rfl⟩

theorem CAt.lt {w : World} {c e r : Nat} {bud : Int} {L : List Nd} (h : CAt w c e r bud L) : ∀ b ∈ fp c e r L, b < w.heap.size := by
  intro b hb
  obtain ⟨ah, nx, hr⟩ := h.ring
  obtain ⟨o, g, ho, _⟩ := h.mp
  simp only [fp, List.mem_cons, List.mem_append] at hb
  rcases hb with rfl | rfl | rfl | hb | hb
  · exact (Array.getElem?_eq_some_iff.1 h.hc).1
  · exact (Array.getElem?_eq_some_iff.1 hr.endb).1
  · exact (Array.getElem?_eq_some_iff.1 ho).1
  · obtain ⟨n, hn, rfl⟩ := List.mem_map.1 hb
    exact (Array.getElem?_eq_some_iff.1 (hr.node n hn)).1
  · obtain ⟨n, hn, hb⟩ := List.mem_filterMap.1 hb
    exact (h.bs n hn).lt b hb

theorem CAt.same {w w' : World} {c e r : Nat} {bud : Int} {L : List Nd} (h : CAt w c e r bud L) (hs : ∀ b ∈ fp c e r L, w'.heap[b]? = w.heap[b]?) : CAt w' c e r bud L := by
  refine ⟨by rw [hs c (by simp [fp])]; exact h.hc, h.ring.same fun b hb => hs b ?_, ?_, fun n hn => (h.bs n hn).same fun b hb => hs b ?_, h.nd, h.keys, h.len, h.sz⟩
  · simp [fp] at hb ⊢; rcases hb with h1 | h1 <;> simp [h1]
  · obtain ⟨o, g, ho, hg⟩ := h.mp
    exact ⟨o, g, by rw [hs r (by simp [fp])]; exact ho, hg⟩
  · have := mem_blks hn hb; simp [fp, this]

theorem CAt.new {w w' : World} {c e r : Nat} {bud : Int} {L : List Nd} (h : CAt w c e r bud L) (hn : New w w') : CAt w' c e r bud L :=
  h.same fun b hb => hn.old b (h.lt b hb) (fun h => h)

theorem perm_ids {L L' : List Nd} (h : L.Perm L') : (ids L).Perm (ids L') := h.map _
theorem perm_blks {L L' : List Nd} (h : L.Perm L') : (blks L).Perm (blks L') := h.filterMap _
theorem perm_fp {c e r : Nat} {L L' : List Nd} (h : L.Perm L') : (fp c e r L).Perm (fp c e r L') :=
  ((((perm_ids h).append (perm_blks h)).cons r).cons e).cons c
theorem perm_sum {l l' : List Int} (h : l.Perm l') : l.sum = l'.sum := by
  induction h with
  | nil => rfl
  | cons x _ ih => simp [ih]
  | swap x y l => simp; omega
  | trans _ _ h1 h2 => exact h1.trans h2
theorem perm_tot {L L' : List Nd} (h : L.Perm L') : tot L = tot L' := perm_sum (h.map _)

/-- The same nodes in another order of the ring. -/
theorem CAt.reorder {w w' : World} {c e r : Nat} {bud : Int} {L L' : List Nd} (h : CAt w c e r bud L) (hp : L.Perm L') (hr : Ring w' e L') (hs : ∀ b, b = c ∨ b = r ∨ b ∈ blks L → w'.heap[b]? = w.heap[b]?) : CAt w' c e r bud L' := by
  refine ⟨by rw [hs c (.inl rfl), ← perm_tot hp]; exact h.hc, hr, ?_, fun n hn => (h.bs n (hp.mem_iff.2 hn)).same fun b hb => hs b (.inr (.inr (mem_blks (hp.mem_iff.2 hn) hb))), (perm_fp hp).nodup_iff.1 h.nd, (hp.map _).nodup_iff.1 h.keys, fun n hn => h.len n (hp.mem_iff.2 hn), by rw [← perm_tot hp]; exact h.sz⟩
  obtain ⟨o, g, ho, hg, hm⟩ := h.mp
  refine ⟨o, g, by rw [hs r (.inr (.inl rfl))]; exact ho, hg, fun k v => (hm k v).trans ⟨fun ⟨n, hn, h1⟩ => ⟨n, hp.mem_iff.1 hn, h1⟩, fun ⟨n, hn, h1⟩ => ⟨n, hp.mem_iff.2 hn, h1⟩⟩⟩

theorem fp_facts {c e r : Nat} {L : List Nd} (h : (fp c e r L).Nodup) : c ≠ e ∧ c ≠ r ∧ e ≠ r ∧ c ∉ ids L ∧ c ∉ blks L ∧ e ∉ ids L ∧ e ∉ blks L ∧ r ∉ ids L ∧ r ∉ blks L ∧ (ids L).Nodup ∧ (blks L).Nodup ∧ (∀ x ∈ ids L, x ∉ blks L) := by
  simp only [fp, List.nodup_cons, List.mem_cons, List.mem_append, not_or, List.nodup_append] at h
  obtain ⟨⟨h1, h2, h3, h4⟩, ⟨h5, h6, h7⟩, ⟨h8, h9⟩, h10, h11, h12⟩ := h
  exact ⟨h1, h2, h5, h3, h4, h6, h7, h8, h9, h10, h11, fun x hx hy => h12 x hx x hy rfl⟩

theorem mid_perm (A B : List Nd) (l : Nd) : (A ++ l :: B).Perm (l :: (A ++ B)) := List.perm_middle

/-- What lies beside the ring is not turned by it. -/
theorem InRing.not {c e r : Nat} {L : List Nd} (h : (fp c e r L).Nodup) {b : Nat} (hb : b = c ∨ b = r ∨ b ∈ blks L) : ¬ InRing e L b := by
  obtain ⟨h1, h2, h3, h4, h5, h6, h7, h8, h9, h10, h11, h12⟩ := fp_facts h
  intro hi
  simp only [InRing, List.mem_cons] at hi
  rcases hb with rfl | rfl | hb
  · rcases hi with hi | hi
    · exact h1 hi
    · exact h4 hi
  · rcases hi with hi | hi
    · exact h3 hi.symm
    · exact h8 hi
  · rcases hi with rfl | hi
    · exact h7 hb
    · exact h12 b hi hb

theorem InRing.fp {c e r : Nat} {L : List Nd} {b : Nat} (h : InRing e L b) : InC c e r L b := by
  simp only [InRing, InC, Go.Proofs.Ytbbccdcjhoecpaa.fp, List.mem_cons, List.mem_append] at h ⊢
  rcases h with h | h
  · exact .inr (.inl h)
  · exact .inr (.inr (.inr (.inl h)))
end Go.Proofs.Ytbbccdcjhoecpaa
