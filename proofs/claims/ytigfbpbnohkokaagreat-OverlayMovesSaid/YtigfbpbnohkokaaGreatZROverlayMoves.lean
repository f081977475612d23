/-
  The statement OverlayMoves.
-/
import Derived.Test.YtigfbpbnohkokaaGreatQ7
namespace Go.Proofs.YtigfbpbnohkokaaGreat.overlayMoves
open Go Go.Fw Go.ChangeShapes Go.WideShapes Go.ChangeAt Go.RowKit Go.Proofs.YtigfbpbnohkokaaGreat

set_option maxRecDepth 100000 in
theorem lifted (os : Os) (started : os.Started) (H : Type) (enc : TypeId × Value → H) :
  ReturnsInHanded {} Tryz.checked os 7 .any (Rows.overlayMovesSpec.pre6 enc Tryz.prog Tryz.f7 Rows.overlayMovesRow.domain false) (Rows.overlayMovesSpec.post enc Tryz.prog Tryz.f7 false true false false) := by
 refine returnsInHanded_of_change (C := Tryz.checked) own started (by kernel_rfl) Tryz.func7
  (ChangeSpec.witness6 (enc := enc) (C := Tryz.checked) false ⟨#[], #[.slice none 0 0, .slice none 0 0, .string ByteArray.empty, .bool false], []⟩ 8 (by kernel_rfl) (by kernel_rfl) (by kernel_rfl) (by kernel_rfl)) ?_
 intro W base args ds gs before hval0 hW _ _
 have hval : ∀ (j : Nat) t v, Tryz.f7.params[j]? = some t → args[j]? = some v → Value.okWide Tryz.prog W .any base t v := hval0
 have hW' := hW
 obtain ⟨p, q, hA0, hV, rfl, hfz, hnd⟩ := hW
 have hA : DataW.TrodAll enc Tryz.prog W 0 (fun _ => true) true Tryz.f7.params.toList args.toList ds p := hA0
 rw [Tryz.params7] at hA hval
 obtain ⟨v0, vs0, d0, ds0, p0, q0, hargs, rfl, rfl, h0, r0⟩ := trodAll_cons hA
 obtain ⟨v1, vs1, d1, ds1, p1, q1, rfl, rfl, rfl, h1, r1⟩ := trodAll_cons r0
 obtain ⟨v2, vs2, d2, ds2, p2, q2, rfl, rfl, rfl, h2, r2⟩ := trodAll_cons r1
 obtain ⟨v3, vs3, d3, ds3, p3, q3, rfl, rfl, rfl, h3, r3⟩ := trodAll_cons r2
 obtain ⟨rfl, rfl, rfl⟩ := trodAll_nil r3
 obtain rfl : args = #[v0, v1, v2, v3] := by cases args; simp_all
 obtain ⟨rfl, rfl⟩ := trodVars_none hV
 obtain ⟨a0, n0, c0, rfl⟩ := okWide_slice Tryz.underlying27 (hval 0 27 v0 rfl rfl)
 obtain ⟨⟨u0, l0⟩, e0, m0⟩ := open1 (rd_byt) h0 rfl
 obtain rfl : .slice a0 n0 c0 = u0 := by simpa using e0
 obtain ⟨a1, n1, c1, rfl⟩ := okWide_slice Tryz.underlying27 (hval 1 27 v1 rfl rfl)
 obtain ⟨⟨u1, l1⟩, e1, m1⟩ := open1 (rd_byt) h1 rfl
 obtain rfl : .slice a1 n1 c1 = u1 := by simpa using e1
 obtain ⟨x2, rfl⟩ := okWide_string Tryz.underlying9 (hval 2 9 v2 rfl rfl)
 obtain ⟨s2, e2, m2, g2⟩ := open1 (rd_string Tryz.underlying9) h2 rfl
 obtain rfl : x2 = strB s2 := by simpa using e2
 obtain ⟨b3, rfl⟩ := okWide_bool Tryz.underlying4 (hval 3 4 v3 rfl rfl)
 refine (Ret.calls (overlayMoves_c (w0 := W) m0 m1)).mono fun e W' ⟨v, he, hv, hn⟩ => ?_
 subst he hv
 exact ⟨_, rfl, law_post (b := 4) laid (by rw [Tryz.params7]; decide +kernel) rfl rfl Tryz.underlying4 hW' rfl hn⟩

theorem over : Rows.overlayMovesRow.holds Tryz.pinned (OpenSpec.ofChange Rows.overlayMovesSpec) :=
 OpenClaim.holds_of_wide 7 Tryz.f7 rfl rfl rfl rfl rfl rfl rfl ⟨rfl, rfl, rfl, rfl, rfl⟩ rfl rfl rfl rfl rfl (by kernel_rfl) Tryz.func7 (by kernel_rfl)
  (of_decide_eq_true (by kernel_rfl)) (by unfold Func.isWrapper; first | (rw [if_pos (by decide +kernel)]; kernel_rfl) | (rw [if_neg (by decide +kernel)]; exact ⟨rfl, rfl⟩))
  (fun os started H enc _ => lifted os started H enc)

/-- The statement. -/
theorem proved : Rows.OverlayMovesSaid := over
#print axioms proved
end Go.Proofs.YtigfbpbnohkokaaGreat.overlayMoves
