/-
  Part F: slices: what they hold, append, make, conversions.
-/
import Derived.Test.YtkieecaaijlokaaFwE
import Derived.Deep.AppendSrc
import Derived.Laws.IdiomStrings
namespace Go.Fw
open Go Go.RowKit
set_option linter.unusedVariables false
set_option linter.unusedSimpArgs false

/-- What a slice holds: n elements of m cells. -/
def Sl (w : World) (v : Value) (m n : Nat) (cs : List Value) : Prop :=
  (v = .slice none 0 0 ∧ n = 0 ∧ cs = []) ∨
  ∃ b off cap all T fr, v = .slice (some ⟨b, off, none⟩) n cap ∧ n ≤ cap ∧ w.heap[b]? = some (.cells all T fr) ∧ (all.toList.drop off).take (n * m) = cs ∧ cs.length = n * m

/-- A slice of one's own, from its block's head on. -/
def OwS (w : World) (v : Value) (m n : Nat) (cs : List Value) : Prop :=
  (v = .slice none 0 0 ∧ n = 0 ∧ cs = []) ∨
  ∃ b cap rest T, v = .slice (some ⟨b, 0, none⟩) n cap ∧ w.heap[b]? = some (.cells (cs ++ rest).toArray T (0, 0)) ∧ cs.length = n * m ∧ (cs ++ rest).length = cap * m

/-- A slice's block. -/
def blkOf : Value → Option Nat
  | .slice (some a) _ _ => some a.block
  | _ => none

section
variable {P : Program} {w w1 : World} {v : Value} {m n : Nat} {cs : List Value}

theorem Sl.same (h : Sl w v m n cs) (hs : ∀ b, blkOf v = some b → w1.heap[b]? = w.heap[b]?) : Sl w1 v m n cs := by
  rcases h with h | ⟨b, off, cap, all, T, fr, rfl, hc, hb, h1, h2⟩
  · exact .inl h
  · exact .inr ⟨b, off, cap, all, T, fr, rfl, hc, by rw [hs b rfl]; exact hb, h1, h2⟩

theorem OwS.same (h : OwS w v m n cs) (hs : ∀ b, blkOf v = some b → w1.heap[b]? = w.heap[b]?) : OwS w1 v m n cs := by
  rcases h with h | ⟨b, cap, rest, T, rfl, hb, h1, h2⟩
  · exact .inl h
  · exact .inr ⟨b, cap, rest, T, rfl, by rw [hs b rfl]; exact hb, h1, h2⟩

theorem OwS.sl (h : OwS w v m n cs) (hm : 0 < m) : Sl w v m n cs := by
  rcases h with h | ⟨b, cap, rest, T, rfl, hb, h1, h2⟩
  · exact .inl h
  · refine .inr ⟨b, 0, cap, _, T, _, rfl, ?_, hb, by simp [← h1], h1⟩
    have : n * m ≤ cap * m := by rw [← h1, ← h2]; simp
    exact Nat.le_of_mul_le_mul_right this hm

theorem Sl.lt (h : Sl w v m n cs) : ∀ b, blkOf v = some b → b < w.heap.size := by
  rcases h with ⟨rfl, _⟩ | ⟨b, off, cap, all, T, fr, rfl, hc, hb, h1, h2⟩
  · intro b hb; cases hb
  · intro c hc; cases hc; exact (Array.getElem?_eq_some_iff.1 hb).1

theorem OwS.lt (h : OwS w v m n cs) : ∀ b, blkOf v = some b → b < w.heap.size := by
  rcases h with ⟨rfl, _⟩ | ⟨b, cap, rest, T, rfl, hb, h1, h2⟩
  · intro b hb; cases hb
  · intro c hc; cases hc; exact (Array.getElem?_eq_some_iff.1 hb).1

/-- The element at j, its cell q. -/
theorem Sl.cell (h : Sl w v m n cs) {j q : Nat} {u : Value} {b off cap : Nat} (hv : v = .slice (some ⟨b, off, none⟩) n cap) (hu : cs[j * m + q]? = some u) : w.cell? ⟨b, off + j * m + q, none⟩ = some u := by
  rcases h with ⟨rfl, _⟩ | ⟨b', off', cap', all, T, fr, rfl, hc, hb, h1, h2⟩
  · cases hv
  · cases hv
    have hlt : j * m + q < cs.length := (List.getElem?_eq_some_iff.1 hu).1
    rw [← h1, List.getElem?_take, if_pos (by omega), List.getElem?_drop] at hu
    simp only [World.cell?, hb]
    rw [show off + j * m + q = off + (j * m + q) from by omega]
    simpa using hu

/-- The cells of the element at j. -/
theorem Sl.row (h : Sl w v m n cs) {j : Nat} {l : List Value} {b off cap : Nat} (hv : v = .slice (some ⟨b, off, none⟩) n cap) (hl : (cs.drop (j * m)).take l.length = l) (hp : 0 < l.length) : RowAt w b (off + j * m) l := by
  rcases h with ⟨rfl, _⟩ | ⟨b', off', cap', all, T, fr, rfl, hc, hb, h1, h2⟩
  · cases hv
  · cases hv
    refine ⟨all, T, fr, hb, ?_⟩
    have hlen := congrArg List.length hl
    simp only [List.length_take, List.length_drop] at hlen
    rw [← h1, List.drop_take, List.take_take, List.drop_drop] at hl
    rw [← hl]
    have h3 : ((all.toList.drop off).take (n * m)).length = n * m := by rw [h1]; exact h2
    simp only [List.length_take, List.length_drop] at h3
    rw [List.length_take, List.length_drop]
    have e1 : l.length ≤ n * m - j * m := by rw [h2] at hlen; omega
    rw [Nat.min_eq_left e1, Nat.min_eq_left (by omega)]

theorem Sl.src (h : Sl w v m n cs) {tx e' : TypeId} (hk : P.underlying tx = some (.slice e')) (h1 : ∀ u ∈ cs, u.oneCell' = true) : Src P m tx v n cs w := by
  rcases h with ⟨rfl, rfl, rfl⟩ | ⟨b, off, cap, all, T, fr, rfl, hc, hb, h2, h3⟩
  · exact Src.ofNil w hk 0
  · refine Src.ofSlice w hk _ n cap cs h3 (fun j u hu => ?_) h1
    have hlt : j < cs.length := (List.getElem?_eq_some_iff.1 hu).1
    rw [← h2, List.getElem?_take, if_pos (by omega), List.getElem?_drop] at hu
    have ea : (⟨b, off, none⟩ : Addr).add j = ⟨b, off + j, none⟩ := by
      unfold Addr.add; split
      · rename_i hj; subst hj; rfl
      · rfl
    rw [ea]
    simp only [World.cell?, hb]
    simpa using hu

theorem growBy_le (need : Nat) : ∀ (k c : Nat), c < need → Builtin.growBy need k c ≤ 2 * need + 1024
  | 0, c, h => by simp [Builtin.growBy]; omega
  | k + 1, c, h => by
    unfold Builtin.growBy
    rw [if_neg (by omega)]
    by_cases h2 : c + (c + 768) / 4 < need
    · exact growBy_le need k _ h2
    · have : Builtin.growBy need k (c + (c + 768) / 4) = c + (c + 768) / 4 := by
        cases k with
        | zero => rfl
        | succ k => unfold Builtin.growBy; rw [if_pos (by omega)]
      rw [this]; omega

theorem nextslicecap_le {need cap : Nat} (h : cap < need) : Builtin.nextslicecap need cap ≤ 2 * need + 1024 := by
  unfold Builtin.nextslicecap
  split
  · omega
  · split
    · omega
    · exact growBy_le need 4 cap h

/-- How the world turns at an append: in place, or a new row. -/
def ApTo (w : World) (v v' : Value) (w1 : World) : Prop :=
  (∃ b o, blkOf v = some b ∧ blkOf v' = some b ∧ w1 = w.putObj b o) ∨ (blkOf v' = some w.heap.size ∧ ∃ o, w1 = w.drew.alloc o)

theorem run_append_ow {t tx ty e bts k : Nat} {z x : Value} {news : List Value} (ht : P.underlying t = some (.slice e)) (hm : szOf P e = some m) (hz : zeroOf P e = some z) (hzm : z.cells.size = m) (hby : bytesOf' P e = some bts)
    (hv : OwS w v m n cs) (hcs : ∀ u ∈ cs, u.oneCell' = true) (hs : Src P m tx x k news w) (hfit : (n + k) * bts ≤ 70368744177664) (hb : bts ≤ 1048576) (h63 : n + k ≤ 9223372036854775807) :
    ∃ v' w', (Builtin.append_ #[t, tx] ty #[v, x]).run P w = .ok v' w' ∧ OwS w' v' m (n + k) (cs ++ news) ∧ (v = .slice none 0 0 ∧ k = 0 ∧ v' = v ∧ w' = w ∨ ApTo w v v' w') := by
  obtain ⟨i, hi, hi1, hi2, hi3⟩ : ∃ i, P.info? e = some i ∧ i.size = m ∧ i.zero = some z ∧ i.bytes = bts := by
    unfold szOf at hm; unfold zeroOf at hz; unfold bytesOf' at hby
    cases h : P.info? e with
    | none => simp [h] at hm
    | some i => simp [h] at hm hz hby; exact ⟨i, rfl, hm, hz, hby⟩
  subst hi1 hi3
  have grow : ∀ (base : Option Addr) (sCap : Nat), v = .slice base n sCap → sCap < n + k → (Builtin.firstCells i.size n (.slice base n sCap)).run P w.drew = .ok cs.toArray w.drew →
      ∃ v' w', (Builtin.append_ #[t, tx] ty #[v, x]).run P w = .ok v' w' ∧ OwS w' v' i.size (n + k) (cs ++ news) ∧ (v = .slice none 0 0 ∧ k = 0 ∧ v' = v ∧ w' = w ∨ ApTo w v v' w') := by
    intro base sCap hve hlt hold
    have hfit' : Builtin.nextslicecap (n + k) sCap * i.bytes ≤ 281474976710656 := by
      have h1 := nextslicecap_le hlt
      have h2 : Builtin.nextslicecap (n + k) sCap * i.bytes ≤ (2 * (n + k) + 1024) * i.bytes := Nat.mul_le_mul_right _ h1
      have h3 : (2 * (n + k) + 1024) * i.bytes = 2 * ((n + k) * i.bytes) + 1024 * i.bytes := by rw [Nat.add_mul, Nat.mul_assoc]
      omega
    have := run_append_grow_src (P := P) w t tx ty e i z ht hi hi2 base n sCap cs hold x k news hs hlt (by omega) hfit'
    rw [hve, this]
    refine ⟨_, _, rfl, .inr ⟨w.heap.size, grownCap w (n + k) sCap e, (Builtin.zeroCells z.cells (grownCap w (n + k) sCap e - (n + k))).toList, e, rfl, ?_, ?_, ?_⟩, .inr (.inr ⟨rfl, _, rfl⟩)⟩
    · show (w.heap.push _)[w.heap.size]? = _
      rw [Array.getElem?_push_size]
      congr 2
      apply Array.ext'
      simp
    · have h1 : cs.length = n * i.size := by
        rcases hv with ⟨_, rfl, rfl⟩ | ⟨_, _, _, _, _, _, h, _⟩
        · simp
        · exact h
      rw [List.length_append, h1, hs.newsLen, Nat.add_mul]
    · have h1 : cs.length = n * i.size := by
        rcases hv with ⟨_, rfl, rfl⟩ | ⟨_, _, _, _, _, _, h, _⟩
        · simp
        · exact h
      have hcap : n + k ≤ grownCap w (n + k) sCap e := by simp [grownCap, Question.cut]
      simp only [List.length_append, h1, hs.newsLen, Builtin.zeroCells, Array.length_toList, Array.size_map, Array.size_range, hzm]
      rw [← Nat.add_mul, ← Nat.add_mul]
      congr 1
      omega
  rcases hv with ⟨rfl, rfl, rfl⟩ | ⟨b, cap, rest, T, rfl, hbk, h1, h2⟩
  · by_cases hk : k = 0
    · subst hk
      have hn0 : news = [] := by have := hs.newsLen; simpa using this
      subst hn0
      refine ⟨.slice none 0 0, w, ?_, .inl ⟨rfl, rfl, rfl⟩, .inl ⟨rfl, rfl, rfl, rfl⟩⟩
      rcases hs.kind with ⟨e', hkd⟩ | hkd <;> simp [Builtin.append_, run_underlying ht, run_underlying hkd, sizeOf, typeInfo, hi, hs.len, hs.cells]
    · exact grow none 0 rfl (by omega) (by simp [Builtin.firstCells])
  · by_cases hroom : n + k ≤ cap
    · have hlen : (cs ++ rest).length = cs.length + rest.length := List.length_append
      have hnl := hs.newsLen
      have hle : n * i.size + k * i.size ≤ cap * i.size := by rw [← Nat.add_mul]; exact Nat.mul_le_mul_right _ hroom
      have hst := run_storeCells (P := P) (b := b) (T := T) (fr := (0, 0)) (0 + n * i.size) news 0 (cs ++ rest) w hbk (by simp only [Nat.add_zero, Nat.zero_add]; omega) hs.one (by simp)
      simp only [Nat.add_zero, Nat.zero_add] at hst
      refine ⟨.slice (some ⟨b, 0, none⟩) (n + k) cap, w.putObj b (.cells ((cs ++ rest).take (n * i.size) ++ news ++ (cs ++ rest).drop (n * i.size + news.length)).toArray T (0, 0)), ?_, .inr ⟨b, cap, (cs ++ rest).drop (n * i.size + news.length), T, rfl, ?_, ?_, ?_⟩, .inr (.inl ⟨b, _, rfl, rfl, rfl⟩)⟩
      · rcases hs.kind with ⟨e', hkd⟩ | hkd <;> simp [Builtin.append_, run_underlying ht, run_underlying hkd, sizeOf, typeInfo, hi, hs.len, hroom, hs.cells, Addr.add_lit, hst]
      · have hlt : b < w.heap.size := (Array.getElem?_eq_some_iff.1 hbk).1
        rw [World.putObj_heap_same hlt]
        rw [← h1, List.take_left' rfl]
      · rw [List.length_append, h1, hnl, Nat.add_mul]
      · simp only [List.length_append, List.length_drop, h1, hnl] at h2 ⊢
        omega
    · refine grow (some ⟨b, 0, none⟩) cap rfl (by omega) ?_
      refine run_firstCells_some w.drew i.size n ⟨b, 0, none⟩ n cap cs h1 (fun j u hu => ?_)
      have ea : (⟨b, 0, none⟩ : Addr).add j = ⟨b, 0 + j, none⟩ := by
        unfold Addr.add; split
        · rename_i hj; subst hj; rfl
        · rfl
      rw [ea]
      exact cell_of (w := w.drew) hbk (by rw [List.getElem?_append_left (by simpa using (List.getElem?_eq_some_iff.1 hu).1)]; simpa using hu)
end
end Go.Fw
