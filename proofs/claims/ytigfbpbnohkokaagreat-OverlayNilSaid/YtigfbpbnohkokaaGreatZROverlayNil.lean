/-
  The statement OverlayNil.
-/
import Derived.Test.YtigfbpbnohkokaaGreatQ7
namespace Go.Proofs.YtigfbpbnohkokaaGreat.overlayNil
open Go Go.Fw Go.ChangeShapes Go.WideShapes Go.ChangeAt Go.RowKit Go.Proofs.YtigfbpbnohkokaaGreat

set_option maxRecDepth 100000 in
theorem lifted (os : Os) (started : os.Started) (H : Type) (enc : TypeId × Value → H) :
  ReturnsInHanded {} Tryz.checked os 10 .any (Rows.overlayNilSpec.pre6 enc Tryz.prog Tryz.f10 Rows.overlayNilRow.domain false) (Rows.overlayNilSpec.post enc Tryz.prog Tryz.f10 false true false false) := by
 refine returnsInHanded_of_change (C := Tryz.checked) own started (by kernel_rfl) Tryz.func10
  (ChangeSpec.witness6 (enc := enc) (C := Tryz.checked) false ⟨#[], #[.int .i64 0, .agg #[.int .i64 0, .string ByteArray.empty, .string ByteArray.empty, .int .i64 0, .int .i64 0, .int .i64 0, .bool false, .bool false, .slice none 0 0], .bool false], []⟩ 8 (by kernel_rfl) (by kernel_rfl) (by kernel_rfl) (by kernel_rfl)) ?_
 intro W base args ds gs before hval0 hW _ _
 have hval : ∀ (j : Nat) t v, Tryz.f10.params[j]? = some t → args[j]? = some v → Value.okWide Tryz.prog W .any base t v := hval0
 have hW' := hW
 obtain ⟨p, q, hA0, hV, rfl, hfz, hnd⟩ := hW
 have hA : DataW.TrodAll enc Tryz.prog W 0 (fun _ => true) true Tryz.f10.params.toList args.toList ds p := hA0
 rw [Tryz.params10] at hA hval
 obtain ⟨v0, vs0, d0, ds0, p0, q0, hargs, rfl, rfl, h0, r0⟩ := trodAll_cons hA
 obtain ⟨v1, vs1, d1, ds1, p1, q1, rfl, rfl, rfl, h1, r1⟩ := trodAll_cons r0
 obtain ⟨v2, vs2, d2, ds2, p2, q2, rfl, rfl, rfl, h2, r2⟩ := trodAll_cons r1
 obtain ⟨rfl, rfl, rfl⟩ := trodAll_nil r2
 obtain rfl : args = #[v0, v1, v2] := by cases args; simp_all
 obtain ⟨rfl, rfl⟩ := trodVars_none hV
 obtain ⟨a0, rfl⟩ := okWide_int Tryz.underlying3 (hval 0 3 v0 rfl rfl)
 obtain ⟨z0, e0, m0, g0⟩ := open1 (rd_int Tryz.underlying3) h0 rfl
 obtain rfl : a0 = z0 := by simpa using e0
 obtain ⟨c1, rfl, hc1⟩ := okWide_struct Tryz.underlying52 (hval 1 52 v1 rfl rfl)
 obtain ⟨n1, hn1⟩ := h1
 obtain ⟨y1, e1, m1⟩ := rd_op _ _ _ hn1
 obtain rfl : c1 = (opE y1).toArray := by have : c1.toList = opE y1 := e1; rw [← this]
 obtain ⟨b2, rfl⟩ := okWide_bool Tryz.underlying4 (hval 2 4 v2 rfl rfl)
 refine (Ret.calls (overlayNil_c (w0 := W) (o := toOp y1) m1)).mono fun e W' ⟨v, he, hv, hn⟩ => ?_
 subst he hv
 exact ⟨_, rfl, law_post (b := 4) laid (by rw [Tryz.params10]; decide +kernel) rfl rfl Tryz.underlying4 hW' rfl hn⟩

theorem over : Rows.overlayNilRow.holds Tryz.pinned (OpenSpec.ofChange Rows.overlayNilSpec) :=
 OpenClaim.holds_of_wide 10 Tryz.f10 rfl rfl rfl rfl rfl rfl rfl ⟨rfl, rfl, rfl, rfl, rfl⟩ rfl rfl rfl rfl rfl (by kernel_rfl) Tryz.func10 (by kernel_rfl)
  (of_decide_eq_true (by kernel_rfl)) (by unfold Func.isWrapper; first | (rw [if_pos (by decide +kernel)]; kernel_rfl) | (rw [if_neg (by decide +kernel)]; exact ⟨rfl, rfl⟩))
  (fun os started H enc _ => lifted os started H enc)

/-- The statement. -/
theorem proved : Rows.OverlayNilSaid := over
#print axioms proved
end Go.Proofs.YtigfbpbnohkokaaGreat.overlayNil
