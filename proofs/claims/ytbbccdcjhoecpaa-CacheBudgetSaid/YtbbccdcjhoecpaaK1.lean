/-
  The key of the cache's map.
-/
import Derived.Test.YtbbccdcjhoecpaaTab
import Derived.Test.YtbbccdcjhoecpaaFwG
namespace Go.Proofs.Ytbbccdcjhoecpaa
open Go Go.Fw Go.RowKit Go.Proofs
set_option linter.unusedVariables false
set_option linter.unusedSimpArgs false

abbrev Key := ByteArray × Int
def encK (k : Key) : Value := .agg #[.string k.1, .int .i64 k.2]

theorem ba_beq (f g : ByteArray) : (f == g) = decide (f = g) := by
  show ByteArray.beq f g = _
  rw [Bool.eq_iff_iff]
  simp only [ByteArray.beq, beq_iff_eq, decide_eq_true_eq]
  exact ⟨fun h => by cases f; cases g; simp at h; rw [h], fun h => by rw [h]⟩

theorem info29 : (Try.prog.info? 29).isSome = true := by kernel_rfl
theorem hold29 : Try.prog.stoodInHeld 29 = false := by kernel_rfl

theorem run_part0 (a b : Value) (w : World) : (part 9 #[a, b] 0).run Try.prog w = .ok a w := by
  unfold part
  rw [Sem.run_bind, run_isAgg' Try.underlying9]
  rfl
theorem run_part1 (a b : Value) (w : World) : (part 3 #[a, b] 1).run Try.prog w = .ok b w := by
  unfold part
  rw [Sem.run_bind, run_isAgg' Try.underlying3]
  rfl

theorem equal_key (a b : Key) (w : World) : (Op.equal 29 (encK a) (encK b)).run Try.prog w = .ok (decide (a = b)) w := by
  obtain ⟨f, i⟩ := a
  obtain ⟨g, j⟩ := b
  have hs : ∀ d, (Op.equalIn (d + 1) 9 (.string f) (.string g)).run Try.prog w = .ok (f == g) w := fun d => by
    unfold Op.equalIn
    rw [Sem.run_bind, run_underlying Try.underlying9]
    rfl
  have hi : ∀ d, (Op.equalIn (d + 1) 3 (.int .i64 i) (.int .i64 j)).run Try.prog w = .ok (i == j) w := fun d => by
    unfold Op.equalIn
    rw [Sem.run_bind, run_underlying Try.underlying3]
    rfl
  unfold Op.equal Op.maxDepth Op.equalIn encK
  rw [Sem.run_bind, run_underlying Try.underlying29]
  simp only [Result.andThen_ok]
  rw [Sem.run_bind, run_program]
  simp only [Result.andThen_ok, hold29, Bool.false_eq_true, if_false]
  simp only [List.forIn_toArray, List.forIn_cons, List.forIn_nil]
  have hs := hs 9998
  have hi := hi 9998
  simp only [Nat.reduceAdd] at hs hi
  rw [if_pos (by decide), if_pos (by decide)]
  simp only [Sem.run_bind, run_part0, run_part1, Result.andThen_ok, hs]
  cases h1 : (f == g) with
  | false =>
    have : f ≠ g := by rw [ba_beq] at h1; simpa using h1
    simp [this]
  | true =>
    have : f = g := by rw [ba_beq] at h1; simpa using h1
    subst this
    simp only [Bool.not_true, Bool.false_eq_true, if_false, Sem.run_pure, Result.andThen_ok, Sem.run_bind, run_part1, hi]
    cases h2 : (i == j) with
    | false =>
      have : i ≠ j := by simpa using h2
      simp [this]
    | true =>
      have : i = j := by simpa using h2
      subst this
      simp

theorem check_key (e : Bool) (a : Key) (w : World) : (Instr.checkKey e 10000 29 (encK a)).run Try.prog w = .ok () w := by
  obtain ⟨f, i⟩ := a
  have hs : ∀ d, (Instr.checkKey e (d + 1) 9 (.string f)).run Try.prog w = .ok () w := fun d => by
    unfold Instr.checkKey
    rw [Sem.run_bind, run_underlying Try.underlying9]
    rfl
  have hi : ∀ d, (Instr.checkKey e (d + 1) 3 (.int .i64 i)).run Try.prog w = .ok () w := fun d => by
    unfold Instr.checkKey
    rw [Sem.run_bind, run_underlying Try.underlying3]
    rfl
  unfold Instr.checkKey encK
  rw [Sem.run_bind, run_underlying Try.underlying29]
  simp only [Result.andThen_ok]
  simp only [List.forIn_toArray, List.forIn_cons, List.forIn_nil]
  have hs := hs 9998
  have hi := hi 9998
  simp only [Nat.reduceAdd] at hs hi
  rw [if_pos (by decide), if_pos (by decide)]
  simp only [Sem.run_bind, run_part0, run_part1, Result.andThen_ok, hs, hi, Sem.run_pure]

theorem keyLaw : KeyLaw Try.prog 29 encK where
  eq := equal_key
  ck := check_key
  now := ⟨_, Try.underlying29, .inr fun _ _ => rfl⟩
  sb := fun ⟨f, i⟩ => by simp [encK, Instr.sameBits, ba_beq]
end Go.Proofs.Ytbbccdcjhoecpaa
