/-
  The statement OverlayPlays.
-/
import Derived.Test.YtigfbpbnohkokaaGreatQ7
namespace Go.Proofs.YtigfbpbnohkokaaGreat.overlayPlays
open Go Go.Fw Go.ChangeShapes Go.WideShapes Go.ChangeAt Go.RowKit Go.Proofs.YtigfbpbnohkokaaGreat

set_option maxRecDepth 100000 in
theorem lifted (os : Os) (started : os.Started) (H : Type) (enc : TypeId × Value → H) :
  ReturnsInHanded {} Tryz.checked os 9 .any (Rows.overlayPlaysSpec.pre6 enc Tryz.prog Tryz.f9 Rows.overlayPlaysRow.domain false) (Rows.overlayPlaysSpec.post enc Tryz.prog Tryz.f9 false true false false) := by
 refine returnsInHanded_of_change (C := Tryz.checked) own started (by kernel_rfl) Tryz.func9
  (ChangeSpec.witness6 (enc := enc) (C := Tryz.checked) false ⟨#[], #[.slice none 0 0, .slice none 0 0], []⟩ 8 (by kernel_rfl) (by kernel_rfl) (by kernel_rfl) (by kernel_rfl)) ?_
 intro W base args ds gs before hval0 hW _ _
 have hval : ∀ (j : Nat) t v, Tryz.f9.params[j]? = some t → args[j]? = some v → Value.okWide Tryz.prog W .any base t v := hval0
 have hW' := hW
 obtain ⟨p, q, hA0, hV, rfl, hfz, hnd⟩ := hW
 have hA : DataW.TrodAll enc Tryz.prog W 0 (fun _ => true) true Tryz.f9.params.toList args.toList ds p := hA0
 rw [Tryz.params9] at hA hval
 obtain ⟨v0, vs0, d0, ds0, p0, q0, hargs, rfl, rfl, h0, r0⟩ := trodAll_cons hA
 obtain ⟨v1, vs1, d1, ds1, p1, q1, rfl, rfl, rfl, h1, r1⟩ := trodAll_cons r0
 obtain ⟨rfl, rfl, rfl⟩ := trodAll_nil r1
 obtain rfl : args = #[v0, v1] := by cases args; simp_all
 obtain ⟨rfl, rfl⟩ := trodVars_none hV
 obtain ⟨a0, n0, c0, rfl⟩ := okWide_slice Tryz.underlying24 (hval 0 24 v0 rfl rfl)
 obtain ⟨⟨u0, l0⟩, e0, m0⟩ := open1 (rd_slice Tryz.underlying24 cFile (by decide) rd_file) h0 rfl
 obtain rfl : .slice a0 n0 c0 = u0 := by simpa using e0
 obtain ⟨a1, n1, c1, rfl⟩ := okWide_slice Tryz.underlying42 (hval 1 42 v1 rfl rfl)
 obtain ⟨⟨u1, l1⟩, e1, m1⟩ := open1 (rd_slice Tryz.underlying42 cAct (by decide) rd_act) h1 rfl
 obtain rfl : .slice a1 n1 c1 = u1 := by simpa using e1
 refine (Ret.calls (overlayPlays_c (w0 := W) (files_of (fun _ _ h => h) m0) (by have := m0.2.1; rw [List.length_map]; exact max_len this) (asks_of (fun _ _ h => h) m1) (by have := m1.2.1; rw [List.length_map]; exact max_len this))).mono fun e W' ⟨v, he, hv, hn⟩ => ?_
 subst he hv
 exact ⟨_, rfl, law_post (b := 4) laid (by rw [Tryz.params9]; decide +kernel) rfl rfl Tryz.underlying4 hW' rfl hn⟩

theorem over : Rows.overlayPlaysRow.holds Tryz.pinned (OpenSpec.ofChange Rows.overlayPlaysSpec) :=
 OpenClaim.holds_of_wide 9 Tryz.f9 rfl rfl rfl rfl rfl rfl rfl ⟨rfl, rfl, rfl, rfl, rfl⟩ rfl rfl rfl rfl rfl (by kernel_rfl) Tryz.func9 (by kernel_rfl)
  (of_decide_eq_true (by kernel_rfl)) (by unfold Func.isWrapper; first | (rw [if_pos (by decide +kernel)]; kernel_rfl) | (rw [if_neg (by decide +kernel)]; exact ⟨rfl, rfl⟩))
  (fun os started H enc _ => lifted os started H enc)

/-- The statement. -/
theorem proved : Rows.OverlayPlaysSaid := over
#print axioms proved
end Go.Proofs.YtigfbpbnohkokaaGreat.overlayPlays
