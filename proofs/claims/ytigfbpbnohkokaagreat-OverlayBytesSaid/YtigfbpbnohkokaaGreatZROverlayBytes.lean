/-
  The statement OverlayBytes.
-/
import Derived.Test.YtigfbpbnohkokaaGreatQ7
namespace Go.Proofs.YtigfbpbnohkokaaGreat.overlayBytes
open Go Go.Fw Go.ChangeShapes Go.WideShapes Go.ChangeAt Go.RowKit Go.Proofs.YtigfbpbnohkokaaGreat

set_option maxRecDepth 100000 in
theorem lifted (os : Os) (started : os.Started) (H : Type) (enc : TypeId × Value → H) :
  ReturnsInHanded {} Tryz.checked os 4 .any (Rows.overlayBytesSpec.pre6 enc Tryz.prog Tryz.f4 Rows.overlayBytesRow.domain false) (Rows.overlayBytesSpec.post enc Tryz.prog Tryz.f4 false true false false) := by
 refine returnsInHanded_of_change (C := Tryz.checked) own started (by kernel_rfl) Tryz.func4
  (ChangeSpec.witness6 (enc := enc) (C := Tryz.checked) false ⟨#[], #[.slice none 0 0, .slice none 0 0, .int .i64 0, .int .i64 0], []⟩ 8 (by kernel_rfl) (by kernel_rfl) (by kernel_rfl) (by kernel_rfl)) ?_
 intro W base args ds gs before hval0 hW _ _
 have hval : ∀ (j : Nat) t v, Tryz.f4.params[j]? = some t → args[j]? = some v → Value.okWide Tryz.prog W .any base t v := hval0
 have hW' := hW
 obtain ⟨p, q, hA0, hV, rfl, hfz, hnd⟩ := hW
 have hA : DataW.TrodAll enc Tryz.prog W 0 (fun _ => true) true Tryz.f4.params.toList args.toList ds p := hA0
 rw [Tryz.params4] at hA hval
 obtain ⟨v0, vs0, d0, ds0, p0, q0, hargs, rfl, rfl, h0, r0⟩ := trodAll_cons hA
 obtain ⟨v1, vs1, d1, ds1, p1, q1, rfl, rfl, rfl, h1, r1⟩ := trodAll_cons r0
 obtain ⟨v2, vs2, d2, ds2, p2, q2, rfl, rfl, rfl, h2, r2⟩ := trodAll_cons r1
 obtain ⟨v3, vs3, d3, ds3, p3, q3, rfl, rfl, rfl, h3, r3⟩ := trodAll_cons r2
 obtain ⟨rfl, rfl, rfl⟩ := trodAll_nil r3
 obtain rfl : args = #[v0, v1, v2, v3] := by cases args; simp_all
 obtain ⟨rfl, rfl⟩ := trodVars_none hV
 obtain ⟨a0, n0, c0, rfl⟩ := okWide_slice Tryz.underlying27 (hval 0 27 v0 rfl rfl)
 obtain ⟨⟨u0, l0⟩, e0, m0⟩ := open1 (rd_byt) h0 rfl
 obtain rfl : .slice a0 n0 c0 = u0 := by simpa using e0
 obtain ⟨a1, n1, c1, rfl⟩ := okWide_slice Tryz.underlying42 (hval 1 42 v1 rfl rfl)
 obtain ⟨⟨u1, l1⟩, e1, m1⟩ := open1 (rd_slice Tryz.underlying42 cAct (by decide) rd_act) h1 rfl
 obtain rfl : .slice a1 n1 c1 = u1 := by simpa using e1
 obtain ⟨a2, rfl⟩ := okWide_int Tryz.underlying3 (hval 2 3 v2 rfl rfl)
 obtain ⟨z2, e2, m2, g2⟩ := open1 (rd_int Tryz.underlying3) h2 rfl
 obtain rfl : a2 = z2 := by simpa using e2
 obtain ⟨a3, rfl⟩ := okWide_int Tryz.underlying3 (hval 3 3 v3 rfl rfl)
 obtain ⟨z3, e3, m3, g3⟩ := open1 (rd_int Tryz.underlying3) h3 rfl
 obtain rfl : a3 = z3 := by simpa using e3
 refine (Ret.calls (overlayBytes_c (w0 := W) m0 (asks_of (fun _ _ h => h) m1) (by have := m1.2.1; rw [List.length_map]; exact max_len this))).mono fun e W' ⟨v, he, hv, hn⟩ => ?_
 subst he hv
 exact ⟨_, rfl, law_post (b := 4) laid (by rw [Tryz.params4]; decide +kernel) rfl rfl Tryz.underlying4 hW' rfl hn⟩

theorem over : Rows.overlayBytesRow.holds Tryz.pinned (OpenSpec.ofChange Rows.overlayBytesSpec) :=
 OpenClaim.holds_of_wide 4 Tryz.f4 rfl rfl rfl rfl rfl rfl rfl ⟨rfl, rfl, rfl, rfl, rfl⟩ rfl rfl rfl rfl rfl (by kernel_rfl) Tryz.func4 (by kernel_rfl)
  (of_decide_eq_true (by kernel_rfl)) (by unfold Func.isWrapper; first | (rw [if_pos (by decide +kernel)]; kernel_rfl) | (rw [if_neg (by decide +kernel)]; exact ⟨rfl, rfl⟩))
  (fun os started H enc _ => lifted os started H enc)

/-- The statement. -/
theorem proved : Rows.OverlayBytesSaid := over
#print axioms proved
end Go.Proofs.YtigfbpbnohkokaaGreat.overlayBytes
