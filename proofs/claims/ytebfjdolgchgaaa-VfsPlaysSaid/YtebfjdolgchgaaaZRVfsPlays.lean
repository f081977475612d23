/-
  The statement VfsPlays.
-/
import Derived.Test.YtebfjdolgchgaaaQ7
namespace Go.Proofs.Ytebfjdolgchgaaa.vfsPlays
open Go Go.Fw Go.ChangeShapes Go.WideShapes Go.ChangeAt Go.RowKit Go.Proofs.Ytebfjdolgchgaaa

set_option maxRecDepth 100000 in
theorem lifted (os : Os) (started : os.Started) (H : Type) (enc : TypeId × Value → H) :
  ReturnsInHanded {} Try.checked os 3 .any (Rows.vfsPlaysSpec.pre6 enc Try.prog Try.f3 Rows.vfsPlaysRow.domain false) (Rows.vfsPlaysSpec.post enc Try.prog Try.f3 false true false false) := by
 refine returnsInHanded_of_change (C := Try.checked) own started (by kernel_rfl) Try.func3
  (ChangeSpec.witness6 (enc := enc) (C := Try.checked) false ⟨#[], #[.slice none 0 0, .slice none 0 0], []⟩ 8 (by kernel_rfl) (by kernel_rfl) (by kernel_rfl) (by kernel_rfl)) ?_
 intro W base args ds gs before hval0 hW _ _
 have hval : ∀ (j : Nat) t v, Try.f3.params[j]? = some t → args[j]? = some v → Value.okWide Try.prog W .any base t v := hval0
 have hW' := hW
 obtain ⟨p, q, hA0, hV, rfl, hfz, hnd⟩ := hW
 have hA : DataW.TrodAll enc Try.prog W 0 (fun _ => true) true Try.f3.params.toList args.toList ds p := hA0
 rw [Try.params3] at hA hval
 obtain ⟨v0, vs0, d0, ds0, p0, q0, hargs, rfl, rfl, h0, r0⟩ := trodAll_cons hA
 obtain ⟨v1, vs1, d1, ds1, p1, q1, rfl, rfl, rfl, h1, r1⟩ := trodAll_cons r0
 obtain ⟨rfl, rfl, rfl⟩ := trodAll_nil r1
 obtain rfl : args = #[v0, v1] := by cases args; simp_all
 obtain ⟨rfl, rfl⟩ := trodVars_none hV
 obtain ⟨a0, n0, c0, rfl⟩ := okWide_slice Try.underlying22 (hval 0 22 v0 rfl rfl)
 obtain ⟨⟨u0, l0⟩, e0, m0⟩ := open1 (rd_slice Try.underlying22 cOps (by decide) rd_opsR) h0 rfl
 obtain rfl : .slice a0 n0 c0 = u0 := by simpa using e0
 obtain ⟨a1, n1, c1, rfl⟩ := okWide_slice Try.underlying23 (hval 1 23 v1 rfl rfl)
 obtain ⟨⟨u1, l1⟩, e1, m1⟩ := open1 (rd_slice Try.underlying23 cInt (by decide) (rd_int Try.underlying3)) h1 rfl
 obtain rfl : .slice a1 n1 c1 = u1 := by simpa using e1
 refine (Ret.calls (vfsPlays_c (w0 := W) (lists_of m0) (ints_of m1) (max_lenR m1.2.1))).mono fun e W' ⟨v, he, hv, hn⟩ => ?_
 subst he hv
 exact ⟨_, rfl, law_post (b := 4) laid (by rw [Try.params3]; decide +kernel) rfl rfl Try.underlying4 hW' rfl hn⟩

theorem over : Rows.vfsPlaysRow.holds Try.pinned (OpenSpec.ofChange Rows.vfsPlaysSpec) :=
 OpenClaim.holds_of_wide 3 Try.f3 rfl rfl rfl rfl rfl rfl rfl ⟨rfl, rfl, rfl, rfl, rfl⟩ rfl rfl rfl rfl rfl (by kernel_rfl) Try.func3 (by kernel_rfl)
  (of_decide_eq_true (by kernel_rfl)) (by unfold Func.isWrapper; first | (rw [if_pos (by decide +kernel)]; kernel_rfl) | (rw [if_neg (by decide +kernel)]; exact ⟨rfl, rfl⟩))
  (fun os started H enc _ => lifted os started H enc)

theorem proved : Rows.VfsPlaysSaid := over
#print axioms proved
end Go.Proofs.Ytebfjdolgchgaaa.vfsPlays
