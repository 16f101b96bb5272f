/-
  Plain laws behind FnBalance: the rate beside the balance point.
-/
import Derived.Test.YtiodlbgfgeimoaaBalance
import Derived.Test.YtiodlbgfgeimoaaRedP
namespace Go.Proofs.Ytiodlbgfgeimoaa
set_option linter.unusedVariables false

theorem rt_diff (b l c m x y : Int) : rtAt b l c m x - rtAt b l c m y = (x - y) * (l + c * (x + y - 2 * m)) := by unfold rtAt; grind
theorem ot_ok {b l c m t : Int} (h : otC b l c m t = 0) : raC b l c m (otT b l c m t) = 0 ∧ raR b l c m (otT b l c m t) = raR b l c m t ∧ raC b l c m t = 0 ∧ otC b l c m (otT b l c m t) = 0 ∧ otT b l c m (otT b l c m t) = t := by
  cases h1 : vRate b l c m
  · simp [otC, h1] at h
  cases h2 : inB t (-400) 600
  · simp [otC, h1, h2] at h
  by_cases h3 : c = 0
  · subst h3; simp [otC, h1, h2] at h
  by_cases h4 : l.tmod c = 0
  · cases h5 : inB (2 * m - l.tdiv c - t) (-400) 600
    · simp [otC, h1, h2, h3, h4, h5] at h
    · have e : otT b l c m t = 2 * m - l.tdiv c - t := by simp [otT, h1, h2, h3, h4, h5]
      have hl := Int.mul_tdiv_add_tmod l c
      have d := rt_diff b l c m (2 * m - l.tdiv c - t) t
      have e2 : l + c * (2 * m - l.tdiv c - t + t - 2 * m) = 0 := by
        rw [show 2 * m - l.tdiv c - t + t - 2 * m = -(l.tdiv c) by omega, Int.mul_neg]
        omega
      rw [e2, Int.mul_zero] at d
      rw [e]
      have e3 : 2 * m - l.tdiv c - (2 * m - l.tdiv c - t) = t := by omega
      refine ⟨by simp [raC, h1, h5], ?_, by simp [raC, h1, h2], ?_, ?_⟩
      · simp [raR, h1, h2, h5]; omega
      · simp [otC, h1, h3, h4, h5, e3, h2]
      · simp [otT, h1, h3, h4, h5, e3, h2]
  · simp [otC, h1, h2, h3, h4] at h
/-- Beside the balance point the rate is extreme. -/
theorem bp_ok {b l c m : Int} (h : bpC b l c m = 0) : vRate b l c m = true ∧ vRat (bpN b l c m) (bpD b l c m) = true ∧ c ≠ 0 ∧ (-1000000000 ≤ bpN b l c m / bpD b l c m ∧ bpN b l c m / bpD b l c m ≤ 1000000000) ∧
    (0 < c → ∀ t, rtAt b l c m (bpN b l c m / bpD b l c m) ≤ rtAt b l c m t ∨ rtAt b l c m (bpN b l c m / bpD b l c m + 1) ≤ rtAt b l c m t) ∧
    (c < 0 → ∀ t, rtAt b l c m t ≤ rtAt b l c m (bpN b l c m / bpD b l c m) ∨ rtAt b l c m t ≤ rtAt b l c m (bpN b l c m / bpD b l c m + 1)) := by
  cases h1 : vRate b l c m
  · simp [bpC, h1] at h
  have hc : c ≠ 0 := by
    intro e
    subst e
    simp [bpC, h1, mkC] at h
  have hd : 2 * c ≠ 0 := by omega
  have hr : redOk (2 * c * m - l) (2 * c) = true := by
    cases h2 : redOk (2 * c * m - l) (2 * c)
    · simp [bpC, h1, mkC, hd, h2] at h
    · rfl
  have eN : bpN b l c m = redN (2 * c * m - l) (2 * c) := by simp [bpN, h1, mkN, hd]
  have eD : bpD b l c m = redD (2 * c * m - l) (2 * c) := by simp [bpD, h1, mkD, hd]
  rw [eN, eD]
  have hv := red_valid hd hr
  obtain ⟨r1, r2, hg, h3⟩ := red_mul hd hr
  generalize redN (2 * c * m - l) (2 * c) = N at *
  generalize redD (2 * c * m - l) (2 * c) = D at *
  generalize gcdI (2 * c * m - l) (2 * c) = g at *
  have f1 := Int.ediv_mul_le N (show D ≠ 0 by omega)
  have f2 := Int.lt_ediv_add_one_mul_self N (show 0 < D by omega)
  have hNb : -1000000000 ≤ N ∧ N ≤ 1000000000 := by simp [vRat] at hv; exact inB_iff.1 hv.1.2
  have hF := ediv_in N D h3 (by omega) (by omega)
  have hFb : -1000000000 ≤ N / D ∧ N / D ≤ 1000000000 := by
    constructor
    · exact Int.le_ediv_of_mul_le (by omega) (by omega)
    · exact Int.ediv_le_of_le_mul (by omega) (by omega)
  generalize N / D = F at *
  have g1 : F * D * g ≤ N * g := Int.mul_le_mul_of_nonneg_right f1 (by omega)
  have g2 : N * g < (F + 1) * D * g := Int.mul_lt_mul_of_pos_right f2 (by omega)
  rw [Int.mul_assoc, r2, r1] at g1
  rw [Int.mul_assoc, r2, r1] at g2
  refine ⟨rfl, hv, hc, hFb, fun hp t => ?_, fun hp t => ?_⟩
  · rw [if_pos (by omega)] at g1 g2
    rw [show ((2 * c).natAbs : Int) = 2 * c by omega] at g1 g2
    by_cases ht : t ≤ F
    · refine .inl ?_
      have d := rt_diff b l c m t F
      have k1 : c * (t + F - 2 * m) ≤ c * (2 * F - 2 * m) := Int.mul_le_mul_of_nonneg_left (by omega) (by omega)
      have k2 : c * (2 * F - 2 * m) = F * (2 * c) - 2 * c * m := by grind
      have k3 := Int.mul_nonneg (show 0 ≤ F - t by omega) (show 0 ≤ -(l + c * (t + F - 2 * m)) by omega)
      have k4 : (F - t) * -(l + c * (t + F - 2 * m)) = (t - F) * (l + c * (t + F - 2 * m)) := by grind
      omega
    · refine .inr ?_
      have d := rt_diff b l c m t (F + 1)
      have k1 : c * (2 * (F + 1) - 2 * m) ≤ c * (t + (F + 1) - 2 * m) := Int.mul_le_mul_of_nonneg_left (by omega) (by omega)
      have k2 : c * (2 * (F + 1) - 2 * m) = (F + 1) * (2 * c) - 2 * c * m := by grind
      have k3 := Int.mul_nonneg (show 0 ≤ t - (F + 1) by omega) (show 0 ≤ l + c * (t + (F + 1) - 2 * m) by omega)
      omega
  · rw [if_neg (by omega)] at g1 g2
    rw [show ((2 * c).natAbs : Int) = -(2 * c) by omega] at g1 g2
    by_cases ht : t ≤ F
    · refine .inl ?_
      have d := rt_diff b l c m t F
      have k1 : -c * (t + F - 2 * m) ≤ -c * (2 * F - 2 * m) := Int.mul_le_mul_of_nonneg_left (by omega) (by omega)
      have k2 : -c * (2 * F - 2 * m) = F * -(2 * c) + 2 * c * m := by grind
      have k5 : -c * (t + F - 2 * m) = -(c * (t + F - 2 * m)) := by grind
      have k3 := Int.mul_nonneg (show 0 ≤ F - t by omega) (show 0 ≤ l + c * (t + F - 2 * m) by omega)
      have k4 : (F - t) * (l + c * (t + F - 2 * m)) = -((t - F) * (l + c * (t + F - 2 * m))) := by grind
      omega
    · refine .inr ?_
      have d := rt_diff b l c m t (F + 1)
      have k1 : -c * (2 * (F + 1) - 2 * m) ≤ -c * (t + (F + 1) - 2 * m) := Int.mul_le_mul_of_nonneg_left (by omega) (by omega)
      have k2 : -c * (2 * (F + 1) - 2 * m) = (F + 1) * -(2 * c) + 2 * c * m := by grind
      have k5 : -c * (t + (F + 1) - 2 * m) = -(c * (t + (F + 1) - 2 * m)) := by grind
      have k3 := Int.mul_nonneg (show 0 ≤ t - (F + 1) by omega) (show 0 ≤ -(l + c * (t + (F + 1) - 2 * m)) by omega)
      have k4 : (t - (F + 1)) * -(l + c * (t + (F + 1) - 2 * m)) = -((t - (F + 1)) * (l + c * (t + (F + 1) - 2 * m))) := by grind
      omega
end Go.Proofs.Ytiodlbgfgeimoaa
