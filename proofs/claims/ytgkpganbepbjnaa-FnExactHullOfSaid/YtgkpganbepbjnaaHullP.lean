/-
  Plain geometry behind the hull: directions in a half plane, the best next corner, corners do not come back.
-/
import Derived.Test.YtgkpganbepbjnaaBase
namespace Go.Proofs.Ytgkpganbepbjnaa
set_option linter.unusedVariables false

theorem lex_pos {A B C P1 P2 P3 Q1 Q2 Q3 : Int} (hA : 0 ≤ A) (hB : 0 ≤ B) (e1 : C * P2 = A * P3 + B * P1) (e2 : C * Q2 = A * Q3 + B * Q1)
    (c1 : 0 < P1 ∨ (P1 = 0 ∧ 0 < Q1)) (c2 : 0 < P2 ∨ (P2 = 0 ∧ 0 < Q2)) (c3 : 0 < P3 ∨ (P3 = 0 ∧ 0 < Q3)) : 0 ≤ C := by
  apply Classical.byContradiction
  intro hC
  have hC : C < 0 := by omega
  have k1 : 0 ≤ A * P3 := Int.mul_nonneg hA (by omega)
  have k2 : 0 ≤ B * P1 := Int.mul_nonneg hB (by omega)
  rcases c2 with c2 | ⟨c2, d2⟩
  · have := Int.mul_neg_of_neg_of_pos hC c2
    omega
  · have := Int.mul_neg_of_neg_of_pos hC d2
    rw [c2, Int.mul_zero] at e1
    have z1 : A * P3 = 0 := by omega
    have z2 : B * P1 = 0 := by omega
    have n1 : 0 ≤ A * Q3 := by
      rcases c3 with c3 | ⟨_, c3⟩
      · rcases Int.mul_eq_zero.1 z1 with h | h
        · rw [h, Int.zero_mul]; exact Int.le_refl _
        · omega
      · exact Int.mul_nonneg hA (by omega)
    have n2 : 0 ≤ B * Q1 := by
      rcases c1 with c1 | ⟨_, c1⟩
      · rcases Int.mul_eq_zero.1 z2 with h | h
        · rw [h, Int.zero_mul]; exact Int.le_refl _
        · omega
      · exact Int.mul_nonneg hB (by omega)
    omega
/-- The direction (x, y) lies in the half plane that (p1, p2) and (q1, q2) tell. -/
def lexp (p1 p2 q1 q2 x y : Int) : Prop := 0 < p1 * x + p2 * y ∨ (p1 * x + p2 * y = 0 ∧ 0 < q1 * x + q2 * y)
theorem cr_trans {p1 p2 q1 q2 x1 y1 x2 y2 x3 y3 : Int} (c1 : lexp p1 p2 q1 q2 x1 y1) (c2 : lexp p1 p2 q1 q2 x2 y2) (c3 : lexp p1 p2 q1 q2 x3 y3)
    (h12 : 0 ≤ x1 * y2 - y1 * x2) (h23 : 0 ≤ x2 * y3 - y2 * x3) : 0 ≤ x1 * y3 - y1 * x3 :=
  lex_pos (A := x1 * y2 - y1 * x2) (B := x2 * y3 - y2 * x3) h12 h23 (by grind) (by grind) c1 c2 c3
/-- The direction b is at least as good as the direction x. -/
def geV (bx by' xx xy : Int) : Prop := 0 < bx * xy - by' * xx ∨ (bx * xy - by' * xx = 0 ∧ xx * xx + xy * xy ≤ bx * bx + by' * by')
theorem geV_refl (x y : Int) : geV x y x y := .inr ⟨by rw [Int.mul_comm y x]; omega, Int.le_refl _⟩
theorem geV_total {bx by' xx xy : Int} (h : ¬ geV bx by' xx xy) : geV xx xy bx by' := by
  unfold geV at *
  have e : xx * by' - xy * bx = -(bx * xy - by' * xx) := by grind
  rw [e]
  generalize bx * xy - by' * xx = C at *
  generalize xx * xx + xy * xy = S at *
  generalize bx * bx + by' * by' = T at *
  omega
theorem geV_trans {p1 p2 q1 q2 x1 y1 x2 y2 x3 y3 : Int} (c1 : lexp p1 p2 q1 q2 x1 y1) (c2 : lexp p1 p2 q1 q2 x2 y2) (c3 : lexp p1 p2 q1 q2 x3 y3)
    (h12 : geV x1 y1 x2 y2) (h23 : geV x2 y2 x3 y3) : geV x1 y1 x3 y3 := by
  have a1 : 0 ≤ x1 * y2 - y1 * x2 := by unfold geV at h12; omega
  have a2 : 0 ≤ x2 * y3 - y2 * x3 := by unfold geV at h23; omega
  have a3 := cr_trans c1 c2 c3 a1 a2
  have e1 : x2 * y1 - y2 * x1 = -(x1 * y2 - y1 * x2) := by grind
  have e2 : x3 * y2 - y3 * x2 = -(x2 * y3 - y2 * x3) := by grind
  have e3 : x3 * y1 - y3 * x1 = -(x1 * y3 - y1 * x3) := by grind
  have b1 : x1 * y3 - y1 * x3 = 0 → x1 * y2 - y1 * x2 = 0 := fun h => by
    have := cr_trans c2 c3 c1 a2 (by omega)
    omega
  have b2 : x1 * y3 - y1 * x3 = 0 → x2 * y3 - y2 * x3 = 0 := fun h => by
    have := cr_trans c3 c1 c2 (by omega) a1
    omega
  unfold geV at *
  generalize x1 * y3 - y1 * x3 = C at *
  generalize x1 * y2 - y1 * x2 = A at *
  generalize x2 * y3 - y2 * x3 = B at *
  generalize x1 * x1 + y1 * y1 = S1 at *
  generalize x2 * x2 + y2 * y2 = S2 at *
  generalize x3 * x3 + y3 * y3 = S3 at *
  omega
theorem sum_sq {x y : Int} (h : x * x + y * y ≤ 0) : x = 0 ∧ y = 0 := by
  have h1 : 0 ≤ x * x := by rcases Int.le_total 0 x with k | k; exact Int.mul_nonneg k k; exact Int.mul_nonneg_of_nonpos_of_nonpos k k
  have h2 : 0 ≤ y * y := by rcases Int.le_total 0 y with k | k; exact Int.mul_nonneg k k; exact Int.mul_nonneg_of_nonpos_of_nonpos k k
  have h3 : x * x = 0 := by omega
  have h4 : y * y = 0 := by omega
  have h5 := Int.mul_eq_zero.1 h3
  have h6 := Int.mul_eq_zero.1 h4
  omega
theorem lexp_neg {p1 p2 q1 q2 x y : Int} (c1 : lexp p1 p2 q1 q2 x y) (c2 : lexp p1 p2 q1 q2 (-x) (-y)) : False := by
  unfold lexp at *
  have e1 : p1 * -x + p2 * -y = -(p1 * x + p2 * y) := by grind
  have e2 : q1 * -x + q2 * -y = -(q1 * x + q2 * y) := by grind
  omega
/-- Two directions on one line, in one half plane, that lie apart: no. -/
theorem lexp_opp {p1 p2 q1 q2 x y u v : Int} (c1 : lexp p1 p2 q1 q2 x y) (c2 : lexp p1 p2 q1 q2 u v) (hc : x * v - y * u = 0) (hd : x * u + y * v < 0) : False := by
  have hs : 0 < x * x + y * y := by
    rcases Int.lt_or_le 0 (x * x + y * y) with h | h
    · exact h
    · obtain ⟨rfl, rfl⟩ := sum_sq h
      simp at hd
  have e1 : (x * x + y * y) * (p1 * u + p2 * v) = (x * u + y * v) * (p1 * x + p2 * y) := by
    have : (x * x + y * y) * (p1 * u + p2 * v) = (x * u + y * v) * (p1 * x + p2 * y) + (x * v - y * u) * (x * p2 - y * p1) := by grind
    rw [hc, Int.zero_mul, Int.add_zero] at this
    exact this
  have e2 : (x * x + y * y) * (q1 * u + q2 * v) = (x * u + y * v) * (q1 * x + q2 * y) := by
    have : (x * x + y * y) * (q1 * u + q2 * v) = (x * u + y * v) * (q1 * x + q2 * y) + (x * v - y * u) * (x * q2 - y * q1) := by grind
    rw [hc, Int.zero_mul, Int.add_zero] at this
    exact this
  unfold lexp at *
  generalize x * x + y * y = S at *
  generalize x * u + y * v = D at *
  generalize p1 * u + p2 * v = P2 at *
  generalize q1 * u + q2 * v = Q2 at *
  generalize p1 * x + p2 * y = P1 at *
  generalize q1 * x + q2 * y = Q1 at *
  rcases c1 with h1 | ⟨h1, k1⟩
  · have a1 := Int.mul_neg_of_neg_of_pos hd h1
    have a2 : 0 ≤ S * P2 := Int.mul_nonneg (by omega) (by omega)
    omega
  · rw [h1, Int.mul_zero] at e1
    have h2 : P2 = 0 := by rcases Int.mul_eq_zero.1 e1 with h | h <;> omega
    have a1 := Int.mul_neg_of_neg_of_pos hd k1
    have a2 : 0 ≤ S * Q2 := Int.mul_nonneg (by omega) (by omega)
    omega
theorem geV_anti {p1 p2 q1 q2 x y u v : Int} (c1 : lexp p1 p2 q1 q2 x y) (c2 : lexp p1 p2 q1 q2 u v) (h1 : geV x y u v) (h2 : geV u v x y) : u = x ∧ v = y := by
  have e : u * y - v * x = -(x * v - y * u) := by grind
  have hc : x * v - y * u = 0 := by unfold geV at h1 h2; omega
  have hs : u * u + v * v = x * x + y * y := by unfold geV at h1 h2; omega
  have hd : 0 ≤ x * u + y * v := by
    rcases Int.lt_or_le (x * u + y * v) 0 with h | h
    · exact (lexp_opp c1 c2 hc h).elim
    · exact h
  have l : (x * u + y * v) * (x * u + y * v) = (x * x + y * y) * (u * u + v * v) - (x * v - y * u) * (x * v - y * u) := by grind
  rw [hc, hs, Int.zero_mul, Int.sub_zero] at l
  have ss : 0 ≤ x * x + y * y := by
    have a1 : 0 ≤ x * x := by rcases Int.le_total 0 x with k | k; exact Int.mul_nonneg k k; exact Int.mul_nonneg_of_nonpos_of_nonpos k k
    have a2 : 0 ≤ y * y := by rcases Int.le_total 0 y with k | k; exact Int.mul_nonneg k k; exact Int.mul_nonneg_of_nonpos_of_nonpos k k
    omega
  have d : x * u + y * v = x * x + y * y := by
    have f : (x * u + y * v - (x * x + y * y)) * (x * u + y * v + (x * x + y * y)) = 0 := by
      have : (x * u + y * v - (x * x + y * y)) * (x * u + y * v + (x * x + y * y)) = (x * u + y * v) * (x * u + y * v) - (x * x + y * y) * (x * x + y * y) := by grind
      omega
    rcases Int.mul_eq_zero.1 f with h | h <;> omega
  have g : (u - x) * (u - x) + (v - y) * (v - y) = 0 := by
    have : (u - x) * (u - x) + (v - y) * (v - y) = (u * u + v * v) + (x * x + y * y) - 2 * (x * u + y * v) := by grind
    omega
  have := sum_sq (x := u - x) (y := v - y) (by omega)
  omega
/-- Behind the best direction all others lie in a half plane at its end. -/
theorem geV_next {x y u v : Int} (h : geV x y u v) (hne : ¬ (u = x ∧ v = y)) : lexp (-y) x (-x) (-y) (u - x) (v - y) := by
  unfold lexp
  have e1 : -y * (u - x) + x * (v - y) = x * v - y * u := by grind
  have e2 : -x * (u - x) + -y * (v - y) = x * x + y * y - (x * u + y * v) := by grind
  rw [e1, e2]
  rcases h with h | ⟨h1, h2⟩
  · exact .inl h
  · refine .inr ⟨h1, ?_⟩
    have l : (x * u + y * v) * (x * u + y * v) = (x * x + y * y) * (u * u + v * v) - (x * v - y * u) * (x * v - y * u) := by grind
    rw [h1, Int.zero_mul, Int.sub_zero] at l
    have ss : 0 ≤ u * u + v * v := by
      have a1 : 0 ≤ u * u := by rcases Int.le_total 0 u with k | k; exact Int.mul_nonneg k k; exact Int.mul_nonneg_of_nonpos_of_nonpos k k
      have a2 : 0 ≤ v * v := by rcases Int.le_total 0 v with k | k; exact Int.mul_nonneg k k; exact Int.mul_nonneg_of_nonpos_of_nonpos k k
      omega
    apply Classical.byContradiction
    intro h3
    have g : (u - x) * (u - x) + (v - y) * (v - y) = (u * u + v * v) + (x * x + y * y) - 2 * (x * u + y * v) := by grind
    have := sum_sq (x := u - x) (y := v - y) (by omega)
    exact hne (by omega)
theorem geV_back {x y : Int} (hne : ¬ (x = 0 ∧ y = 0)) : lexp (-y) x (-x) (-y) (0 - x) (0 - y) := by
  unfold lexp
  have e1 : -y * (0 - x) + x * (0 - y) = 0 := by grind
  have e2 : -x * (0 - x) + -y * (0 - y) = x * x + y * y := by grind
  rw [e1, e2]
  refine .inr ⟨rfl, ?_⟩
  rcases Int.lt_or_le 0 (x * x + y * y) with h | h
  · exact h
  · exact (hne (sum_sq h)).elim
/-- Three points on one line: at one of them the others lie on two sides. -/
theorem three {x y u v : Int} (h1 : ¬ (x = 0 ∧ y = 0)) (h2 : ¬ (u = 0 ∧ v = 0)) (h3 : ¬ (u = x ∧ v = y)) (hc : x * v - y * u = 0) :
    x * u + y * v < 0 ∨ (0 - u) * (x - u) + (0 - v) * (y - v) < 0 ∨ (0 - x) * (u - x) + (0 - y) * (v - y) < 0 := by
  have e1 : (0 - u) * (x - u) + (0 - v) * (y - v) = u * u + v * v - (x * u + y * v) := by grind
  have e2 : (0 - x) * (u - x) + (0 - y) * (v - y) = x * x + y * y - (x * u + y * v) := by grind
  rw [e1, e2]
  apply Classical.byContradiction
  intro h
  have l : (x * u + y * v) * (x * u + y * v) = (x * x + y * y) * (u * u + v * v) - (x * v - y * u) * (x * v - y * u) := by grind
  rw [hc, Int.zero_mul, Int.sub_zero] at l
  have s1 : 0 < x * x + y * y := by
    rcases Int.lt_or_le 0 (x * x + y * y) with k | k
    · exact k
    · exact (h1 (sum_sq k)).elim
  have s2 : 0 < u * u + v * v := by
    rcases Int.lt_or_le 0 (u * u + v * v) with k | k
    · exact k
    · exact (h2 (sum_sq k)).elim
  have g : (u - x) * (u - x) + (v - y) * (v - y) = (u * u + v * v) + (x * x + y * y) - 2 * (x * u + y * v) := by grind
  have g0 : ¬ (u - x) * (u - x) + (v - y) * (v - y) ≤ 0 := fun k => by
    have := sum_sq k
    exact h3 (by omega)
  generalize x * u + y * v = D at *
  generalize x * x + y * y = S at *
  generalize u * u + v * v = T at *
  have d1 : D ≤ T := by omega
  have d2 : D ≤ S := by omega
  have d0 : 0 ≤ D := by omega
  rcases Int.lt_or_le D T with k | k
  · have := Int.mul_lt_mul_of_pos_left k s1
    have := Int.mul_le_mul_of_nonneg_right d2 d0
    omega
  · have : T = D := by omega
    subst this
    rcases Int.lt_or_le T S with k2 | k2
    · have := Int.mul_lt_mul_of_pos_right k2 s2
      omega
    · omega
end Go.Proofs.Ytgkpganbepbjnaa
