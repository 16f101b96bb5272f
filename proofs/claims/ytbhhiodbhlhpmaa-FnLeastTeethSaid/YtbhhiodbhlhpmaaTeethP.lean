/-
  Plain laws behind FnLeastTeeth: the least number of teeth.
-/
import Derived.Test.YtbhhiodbhlhpmaaTeeth
namespace Go.Proofs.Ytbhhiodbhlhpmaa
set_option linter.unusedVariables false

theorem lz_ok {s c h k : Int} (h0 : ltC s c h k = 0) : ((1 ≤ s ∧ s ≤ 1000) ∧ (1 ≤ h ∧ h ≤ 1000) ∧ (1 ≤ k ∧ k ≤ 20) ∧ (6 ≤ ltZ s c h k ∧ ltZ s c h k ≤ 240)) ∧ 2 * k * h * h ≤ 10 * ltZ s c h k * s * s ∧
    (ltZ s c h k = 6 ∨ ¬ 2 * k * h * h ≤ 10 * (ltZ s c h k - 1) * s * s) ∧ (ltC s c h (k + 1) ≠ 0 ∨ ltZ s c h k ≤ ltZ s c h (k + 1)) := by
  cases h1 : vAngle s c h
  · simp [ltC, h1] at h0
  cases h2 : inB k 1 20
  · simp [ltC, h1, h2] at h0
  by_cases h3 : 240 < max 6 (-(-(2 * k * h * h) / (10 * s * s)))
  · simp [ltC, h1, h2, h3] at h0
  obtain ⟨bs, bc, bh, _⟩ := vAngle_iff.1 h1
  have bk := inB_iff.1 h2
  have hz : ltZ s c h k = max 6 (-(-(2 * k * h * h) / (10 * s * s))) := by simp [ltZ, h1, h2, h3]
  have hD : 1 ≤ 10 * s * s := by
    have := Int.mul_le_mul (show (1 : Int) ≤ s by omega) (show (1 : Int) ≤ s by omega) (by omega) (by omega : (0 : Int) ≤ s)
    rw [Int.mul_assoc]; omega
  rw [hz]
  refine ⟨⟨bs, bh, bk, by omega⟩, ?_, ?_, ?_⟩
  · rw [lt_assoc]
    exact (ceil_le hD).1 (by omega)
  · by_cases h6 : max 6 (-(-(2 * k * h * h) / (10 * s * s))) = 6
    · exact .inl h6
    · refine .inr (fun h7 => ?_)
      rw [lt_assoc] at h7
      have := (ceil_le hD).2 h7
      omega
  · cases h4 : inB (k + 1) 1 20
    · exact .inl (by simp [ltC, h1, h4])
    by_cases h5 : 240 < max 6 (-(-(2 * (k + 1) * h * h) / (10 * s * s)))
    · exact .inl (by simp [ltC, h1, h4, h5])
    · refine .inr ?_
      have hz2 : ltZ s c h (k + 1) = max 6 (-(-(2 * (k + 1) * h * h) / (10 * s * s))) := by simp [ltZ, h1, h4, h5]
      rw [hz2]
      have h8 : 2 * (k + 1) * h * h = 2 * k * h * h + 2 * (h * h) := by
        rw [show 2 * (k + 1) = 2 * k + 2 by omega, Int.add_mul, Int.add_mul, Int.mul_assoc 2 h h]
      have h9 : 0 ≤ h * h := Int.mul_nonneg (by omega) (by omega)
      have h10 := (ceil_le (X := 2 * (k + 1) * h * h) (z := -(-(2 * (k + 1) * h * h) / (10 * s * s))) hD).1 (Int.le_refl _)
      have h11 := (ceil_le (X := 2 * k * h * h) (z := -(-(2 * (k + 1) * h * h) / (10 * s * s))) hD).2 (by omega)
      omega
end Go.Proofs.Ytbhhiodbhlhpmaa
