/-
  Plain laws on reduced ratios: they are valid, and times the greatest common divisor they are what was given.
-/
import Derived.Test.YtehebhphlaghfaaMake
namespace Go.Proofs.Ytehebhphlaghfaa
set_option linter.unusedVariables false

theorem red_mul {n d : Int} (hd : d ≠ 0) (h : redOk n d = true) : redN n d * gcdI n d = (if 0 < d then n else -n) ∧ redD n d * gcdI n d = (d.natAbs : Int) ∧ 1 ≤ gcdI n d ∧ 1 ≤ redD n d := by
  have hg := gcdI_pos (n := n) hd
  have e1 : qN n d * gcdI n d = (n.natAbs : Int) := by
    unfold qN gcdI
    rw [← Int.natCast_mul, Nat.div_mul_cancel (Nat.gcd_dvd_left _ _)]
  have e2 : qN d n * gcdI n d = (d.natAbs : Int) := by
    rw [gcdI_comm]
    unfold qN gcdI
    rw [← Int.natCast_mul, Nat.div_mul_cancel (Nat.gcd_dvd_left _ _)]
  have b1 := qN_bd d n
  have h3 : 1 ≤ qN d n := by
    rcases Int.lt_or_le 0 (qN d n) with h3 | h3
    · omega
    · have : qN d n = 0 := by omega
      rw [this, Int.zero_mul] at e2
      omega
  refine ⟨?_, by simp [redD, h, e2], hg, by simp [redD, h]; omega⟩
  simp only [redN, h, if_true]
  by_cases h1 : n < 0 <;> by_cases h2 : d < 0
  · simp [h1, h2, e1]; rw [if_neg (by omega)]; omega
  · simp [h1, h2, Int.neg_mul, e1]; rw [if_pos (by omega)]; omega
  · simp [h1, h2, Int.neg_mul, e1]; rw [if_neg (by omega)]; omega
  · simp [h1, h2, e1]; rw [if_pos (by omega)]; omega
theorem red_valid {n d : Int} (hd : d ≠ 0) (h : redOk n d = true) : vRat (redN n d) (redD n d) = true := by
  obtain ⟨e1, e2, hg, h1⟩ := red_mul hd h
  have b1 := qN_bd n d
  have b2 := qN_bd d n
  have hok := h
  simp [redOk] at hok
  have a1 : inB (redD n d) 1 1000000000 = true := inB_iff.2 ⟨h1, by simp [redD, h]; omega⟩
  have a2 : inB (redN n d) (-1000000000) 1000000000 = true := by
    refine inB_iff.2 ?_
    simp only [redN, h, if_true]
    split <;> omega
  have a3 : gcdI (redN n d) (redD n d) = 1 := by
    have hn : (redN n d).natAbs = n.natAbs / Nat.gcd n.natAbs d.natAbs := by
      simp only [redN, h, if_true, qN]
      split
      · exact Int.natAbs_natCast _
      · rw [Int.natAbs_neg]; exact Int.natAbs_natCast _
    have hm : (redD n d).natAbs = d.natAbs / Nat.gcd n.natAbs d.natAbs := by
      simp only [redD, h, if_true, qN]
      rw [Nat.gcd_comm d.natAbs]
      exact Int.natAbs_natCast _
    unfold gcdI
    rw [hn, hm]
    have hp : 0 < Nat.gcd n.natAbs d.natAbs := Nat.gcd_pos_of_pos_right _ (by omega)
    have := Nat.coprime_div_gcd_div_gcd hp
    unfold Nat.Coprime at this
    rw [this]; rfl
  simp [vRat, a1, a2, a3]
end Go.Proofs.Ytehebhphlaghfaa
