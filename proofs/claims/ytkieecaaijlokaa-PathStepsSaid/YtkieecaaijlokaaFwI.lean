/-
  Part I: slices of slices and of strings.
-/
import Derived.Test.YtkieecaaijlokaaFwH
import Derived.Laws.Slices
namespace Go.Fw
open Go Go.RowKit
set_option linter.unusedVariables false
set_option linter.unusedSimpArgs false

section
variable {P : Program} {n : Nat} {ops : Array Oper} {B : Array Nat} {dr : Bool} {K : KT} {s : List (Nat × Bool)} {F : Env} {ds : List Deferred} {T : List (Nat × (World → Prop))} {w : World} {i : Nat}
variable {d : Option Tmp} {ty : TypeId} {ps : String} {af : Array Edge} {g : Option (Nat × Bool)} {x lo hi : Operand} {t e m : TypeId}

theorem elem_of (h : P.underlying t = some (.slice e)) : P.elem t = e := by unfold Program.elem; rw [h]

theorem x_slh {a : Option Addr} {len cap : Nat} {k : IntKind} {z : Int} (j : Nat) (ho : ops[i]? = some ⟨d, .slice t x none (some hi) none, ty, ps, af, g⟩) (hg : guardV ops F g = some true) (hd : dstOK n d = true)
    (hu : P.underlying t = some (.slice e)) (hs : szOf P e = some m) (hx : ev? F x = some (.slice a len cap)) (hh : ev? F hi = some (.int k z)) (hj : z = (j : Int)) (hle : j ≤ cap)
    (h : Ex P n ops B dr K s (putE F d (.slice a j cap)) ds T w) : Ex P n ops B dr K ((i, false) :: s) F ds T w :=
  Ex.pure_ ho hg hd _ (fun at_ hk w' => by
    subst hj
    have he := elem_of hu
    have hu' : P.underlying t = some (.slice (P.elem t)) := by rw [he]; exact hu
    have hv : sliced a 0 j cap m = .slice a j cap := by
      unfold sliced
      congr 1
      split
      · rfl
      · cases a <;> simp [Addr.add]
    simp only [execOp, Option.map_none, Option.map_some, hk.eval hx, hk.eval hh, Sem.run_bind, run_sliceAt_slice (w := w') t _ _ _ _ hu', run_slice_h (w := w') t a len cap hu' k (j : Int) (by omega) (by omega), he, run_sizeOf' hs, Result.andThen_ok, Int.toNat_natCast, Sem.run_pure, hv]) h

theorem x_sll {a : Option Addr} {len cap : Nat} {k : IntKind} {z : Int} (j : Nat) (ho : ops[i]? = some ⟨d, .slice t x (some lo) none none, ty, ps, af, g⟩) (hg : guardV ops F g = some true) (hd : dstOK n d = true)
    (hu : P.underlying t = some (.slice e)) (hs : szOf P e = some m) (hx : ev? F x = some (.slice a len cap)) (hh : ev? F lo = some (.int k z)) (hj : z = (j : Int)) (hle : j ≤ len)
    (h : Ex P n ops B dr K s (putE F d (.slice (if cap = j then a else a.map (·.add (j * m))) (len - j) (cap - j))) ds T w) : Ex P n ops B dr K ((i, false) :: s) F ds T w :=
  Ex.pure_ ho hg hd _ (fun at_ hk w' => by
    subst hj
    have he := elem_of hu
    have hu' : P.underlying t = some (.slice (P.elem t)) := by rw [he]; exact hu
    simp only [execOp, Option.map_none, Option.map_some, hk.eval hx, hk.eval hh, Sem.run_bind, run_sliceAt_slice (w := w') t _ _ _ _ hu', run_slice_l (w := w') t a len cap hu' k (j : Int) (by omega) (by omega), he, run_sizeOf' hs, Result.andThen_ok, Int.toNat_natCast, Sem.run_pure, sliced]) h

theorem x_ssh {u : ByteArray} {k : IntKind} {z : Int} (j : Nat) (ho : ops[i]? = some ⟨d, .slice t x none (some hi) none, ty, ps, af, g⟩) (hg : guardV ops F g = some true) (hd : dstOK n d = true)
    (hu : P.underlying t = some .string) (hx : ev? F x = some (.string u)) (hh : ev? F hi = some (.int k z)) (hj : z = (j : Int)) (hle : j ≤ u.size)
    (h : Ex P n ops B dr K s (putE F d (.string (u.extract 0 j))) ds T w) : Ex P n ops B dr K ((i, false) :: s) F ds T w :=
  Ex.pure_ ho hg hd _ (fun at_ hk w' => by
    subst hj
    simp only [execOp, Option.map_none, Option.map_some, hk.eval hx, hk.eval hh, Sem.run_bind, run_sliceAt_string (w := w') t _ _ _ _ hu, run_slice_string_h w' t u hu k (j : Int) (by omega) (by omega), Result.andThen_ok, Int.toNat_natCast, Sem.run_pure]) h

theorem x_ssl {u : ByteArray} {k : IntKind} {z : Int} (j : Nat) (ho : ops[i]? = some ⟨d, .slice t x (some lo) none none, ty, ps, af, g⟩) (hg : guardV ops F g = some true) (hd : dstOK n d = true)
    (hu : P.underlying t = some .string) (hx : ev? F x = some (.string u)) (hh : ev? F lo = some (.int k z)) (hj : z = (j : Int)) (hle : j ≤ u.size)
    (h : Ex P n ops B dr K s (putE F d (.string (u.extract j u.size))) ds T w) : Ex P n ops B dr K ((i, false) :: s) F ds T w :=
  Ex.pure_ ho hg hd _ (fun at_ hk w' => by
    subst hj
    simp only [execOp, Option.map_none, Option.map_some, hk.eval hx, hk.eval hh, Sem.run_bind, run_sliceAt_string (w := w') t _ _ _ _ hu, run_slice_string_l w' t u hu k (j : Int) (by omega) (by omega), Result.andThen_ok, Int.toNat_natCast, Sem.run_pure]) h

theorem run_slice_string_lh (w : World) (t : TypeId) (s : ByteArray) (ht : P.underlying t = some .string) (kl kh : IntKind) (l h : Int) (h0 : 0 ≤ l) (h1 : l ≤ h) (h2 : h ≤ s.size) :
    (Instr.slice t (.string s) (some (.int kl l)) (some (.int kh h)) none).run P w = .ok (.string (s.extract l.toNat h.toNat)) w := by
  have eh : (h.toNat : Int) = h := Int.toNat_of_nonneg (by omega)
  simp [Instr.slice, run_underlying ht, Instr.sliceBounds, run_sliceBound, sliced, *, eh, (by omega : 0 ≤ l), (by omega : 0 ≤ h)]

theorem x_sslh {u : ByteArray} {k1 k2 : IntKind} {z1 z2 : Int} (j1 j2 : Nat) (ho : ops[i]? = some ⟨d, .slice t x (some lo) (some hi) none, ty, ps, af, g⟩) (hg : guardV ops F g = some true) (hd : dstOK n d = true)
    (hu : P.underlying t = some .string) (hx : ev? F x = some (.string u)) (hl : ev? F lo = some (.int k1 z1)) (hh : ev? F hi = some (.int k2 z2)) (hj1 : z1 = (j1 : Int)) (hj2 : z2 = (j2 : Int)) (hle : j1 ≤ j2) (hle2 : j2 ≤ u.size)
    (h : Ex P n ops B dr K s (putE F d (.string (u.extract j1 j2))) ds T w) : Ex P n ops B dr K ((i, false) :: s) F ds T w :=
  Ex.pure_ ho hg hd _ (fun at_ hk w' => by
    subst hj1; subst hj2
    simp only [execOp, Option.map_none, Option.map_some, hk.eval hx, hk.eval hl, hk.eval hh, Sem.run_bind, run_sliceAt_string (w := w') t _ _ _ _ hu, run_slice_string_lh w' t u hu k1 k2 (j1 : Int) (j2 : Int) (by omega) (by omega) (by omega), Result.andThen_ok, Int.toNat_natCast, Sem.run_pure]) h
end

/-- The first ones of a slice. -/
theorem Sl.take {w : World} {a : Option Addr} {len cap m : Nat} {cs : List Value} {j : Nat} (h : Sl w (.slice a len cap) m len cs) (hj : j ≤ len) : Sl w (.slice a j cap) m j (cs.take (j * m)) := by
  rcases h with ⟨h1, h2, h3⟩ | ⟨b, off, cap', all, T, fr, h1, hc, hb, h2, h3⟩
  · cases h1
    have : j = 0 := by omega
    subst this
    exact .inl ⟨rfl, rfl, by simp⟩
  · cases h1
    refine .inr ⟨b, off, cap, all, T, fr, rfl, by omega, hb, ?_, ?_⟩
    · rw [← h2, List.take_take, Nat.min_eq_left (Nat.mul_le_mul_right _ hj)]
    · rw [List.length_take, h3, Nat.min_eq_left (Nat.mul_le_mul_right _ hj)]

/-- Those from one on. -/
theorem Sl.drop {w : World} {a : Option Addr} {len cap m : Nat} {cs : List Value} {j : Nat} (h : Sl w (.slice a len cap) m len cs) (hj : j ≤ len) : Sl w (.slice (if cap = j then a else a.map (·.add (j * m))) (len - j) (cap - j)) m (len - j) (cs.drop (j * m)) := by
  rcases h with ⟨h1, h2, h3⟩ | ⟨b, off, cap', all, T, fr, h1, hc, hb, h2, h3⟩
  · cases h1
    have : j = 0 := by omega
    subst this
    refine .inl ⟨by simp, rfl, by simp [h3]⟩
  · cases h1
    by_cases hcj : cap = j
    · have hl : len = j := by omega
      subst hcj; subst hl
      rw [if_pos rfl]
      exact .inr ⟨b, off, 0, all, T, fr, by simp, by omega, hb, by simp [h3], by simp [h3]⟩
    · rw [if_neg hcj]
      have ea : (⟨b, off, none⟩ : Addr).add (j * m) = ⟨b, off + j * m, none⟩ := by
        unfold Addr.add; split
        · rename_i hz; rw [hz]; rfl
        · rfl
      refine .inr ⟨b, off + j * m, cap - j, all, T, fr, by simp [ea], by omega, hb, ?_, ?_⟩
      · rw [← h2, List.drop_take, List.drop_drop, Nat.sub_mul]
      · rw [List.length_drop, h3, Nat.sub_mul]

/-- append, with what it turns. -/
theorem x_appF {P : Program} {n : Nat} {ops : Array Oper} {B : Array Nat} {dr : Bool} {K : KT} {s : List (Nat × Bool)} {F : Env} {ds : List Deferred} {T : List (Nat × (World → Prop))} {w : World} {i : Nat}
    {d : Option Tmp} {ty : TypeId} {ps : String} {af : Array Edge} {gd : Option (Nat × Bool)} {x y : Operand} {t tx e m bts k nn : Nat} {z0 xv sv : Value} {cs news : List Value} {at0 : Array TypeId} (ho : ops[i]? = some ⟨d, .call ⟨.builtin .append, #[x, y], at0⟩, ty, ps, af, gd⟩) (hg : guardV ops F gd = some true) (hd : dstOK n d = true)
    (hat : at0 = #[t, tx]) (ht : P.underlying t = some (.slice e)) (hm : szOf P e = some m) (hz : zeroOf P e = some z0) (hzm : z0.cells.size = m) (hby : bytesOf' P e = some bts)
    (hx : ev? F x = some sv) (hy : ev? F y = some xv) (hv : OwS w sv m nn cs) (hcs : ∀ u ∈ cs, u.oneCell' = true) (hs : Src P m tx xv k news w) (hfit : (nn + k) * bts ≤ 70368744177664) (hb : bts ≤ 1048576) (h63 : nn + k ≤ 9223372036854775807)
    (h : ∀ v' w1, OwS w1 v' m (nn + k) (cs ++ news) → Frm (fun b => blkOf sv = some b) w w1 → (∀ b, blkOf v' = some b → blkOf sv = some b ∨ w.heap.size ≤ b) → pend B i T w1 ∧ Ex P n ops B dr K s (putE F d v') ds T w1) : Ex P n ops B dr K ((i, true) :: s) F ds T w := by
  refine x_app ho hg hd hat ht hm hz hzm hby hx hy hv hcs hs hfit hb h63 (fun v' w1 h1 h2 => h v' w1 h1 ?_ ?_)
  · rcases h2 with ⟨_, _, _, rfl⟩ | h2
    · exact Frm.refl _ _
    · exact h2.frm
  · intro b hb
    rcases h2 with ⟨h3, _, rfl, _⟩ | h2
    · rw [h3] at hb; cases hb
    · obtain ⟨b', h4, h5⟩ := h2.blk
      rw [hb] at h4; cases h4
      rcases h5 with h5 | h5
      · exact .inl h5
      · exact .inr (by omega)
end Go.Fw
