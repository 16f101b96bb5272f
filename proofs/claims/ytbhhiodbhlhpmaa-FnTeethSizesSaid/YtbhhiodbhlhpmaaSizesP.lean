/-
  Plain laws behind FnTeethSizes: the pitch lies between the bounds of tooth and space; the fitting module.
-/
import Derived.Test.YtbhhiodbhlhpmaaThick
import Derived.Test.YtbhhiodbhlhpmaaDiam
import Derived.Test.YtbhhiodbhlhpmaaFit
namespace Go.Proofs.Ytbhhiodbhlhpmaa
set_option linter.unusedVariables false

theorem th_cases (t m a s c h b : Int) : thC t m a s c h b ≠ 0 ∨ (thC t m a s c h b = 0 ∧ (1 ≤ m ∧ m ≤ 500) ∧ (0 ≤ b ∧ b ≤ 5000) ∧ piC (10 * m) = 0 ∧ diaR t m a s c h < diaP t m a s c h ∧ diaP t m a s c h < diaO t m a s c h ∧
    (-10000 ≤ thL t m a s c h b ∧ thL t m a s c h b ≤ 100000) ∧ (-10000 ≤ thH t m a s c h b ∧ thH t m a s c h b ≤ 100000) ∧ 2 * thL t m a s c h b + b ≤ piLo (10 * m) ∧ piHi (10 * m) ≤ 2 * thH t m a s c h b + b) := by
  cases h1 : vProf t m a s c h
  · exact .inl (by simp [thC, h1])
  cases h2 : inB b 0 (10 * m)
  · exact .inl (by simp [thC, h1, h2])
  have v := vProf_iff.1 h1
  have hm := v.bm
  have hb := inB_iff.1 h2
  obtain ⟨p1, p2, p3⟩ := pi_in (n := 10 * m) (by omega)
  have a1 := add_bd hm v.ba
  have a2 := add2_bd hm v.ba
  refine .inr ⟨by simp [thC, h1, h2], hm, by omega, p3, ?_, ?_, ?_, ?_, ?_, ?_⟩
  · simp [diaR, diaP, h1]; omega
  · simp [diaP, diaO, h1, pitD, outD]; omega
  · simp [thL, h1, h2]; omega
  · simp [thH, h1, h2]; omega
  · rw [p1]; simp [thL, h1, h2]; omega
  · rw [p2]; simp [thH, h1, h2]; omega
theorem ft_cases (x y d : Int) : fitC x y d ≠ 0 ∨ (fitC x y d = 0 ∧ IntKind.i64.wrap (5 * fitM x y d) = 5 * fitM x y d ∧ IntKind.i64.wrap (x + y) = x + y ∧ IntKind.i64.wrap (5 * fitM x y d * (x + y)) = 5 * fitM x y d * (x + y) ∧ ¬ d < 5 * fitM x y d * (x + y)) := by
  cases h1 : vPair x y
  · exact .inl (by simp [fitC, h1])
  cases h2 : inB d 1 1000000000
  · exact .inl (by simp [fitC, h1, h2])
  by_cases h3 : min 500 (d / (5 * (x + y))) < 1
  · exact .inl (by simp [fitC, h1, h2, h3])
  have hM : fitM x y d = min 500 (d / (5 * (x + y))) := by simp [fitM, h1, h2, h3]
  have hp : (6 ≤ x ∧ x ≤ 240) ∧ (6 ≤ y ∧ y ≤ 240) := by
    simp [vPair] at h1
    exact ⟨inB_iff.1 h1.1, inB_iff.1 h1.2⟩
  have hd := inB_iff.1 h2
  have f0 : fitC x y d = 0 := by simp [fitC, h1, h2, h3]
  rw [hM]
  have q := Int.ediv_mul_le d (show 5 * (x + y) ≠ 0 by omega)
  have hq : 0 ≤ d / (5 * (x + y)) := Int.ediv_nonneg (by omega) (by omega)
  generalize d / (5 * (x + y)) = Q at *
  generalize hN : min 500 Q = M at *
  have hMQ : M ≤ Q := by omega
  have hMb : 1 ≤ M ∧ M ≤ 500 := by omega
  have r1 := Int.mul_le_mul_of_nonneg_right hMQ (show 0 ≤ 5 * (x + y) by omega)
  have e : 5 * M * (x + y) = M * (5 * (x + y)) := by grind
  have r2 := mul_bd (x := M) (y := 5 * (x + y)) (X := 500) (Y := 2400) (by omega) (by omega)
  refine .inr ⟨f0, IntWalk.i64_in _ (by omega), IntWalk.i64_in _ (by omega), IntWalk.i64_in _ (by rw [e]; omega), by rw [e]; omega⟩
end Go.Proofs.Ytbhhiodbhlhpmaa
