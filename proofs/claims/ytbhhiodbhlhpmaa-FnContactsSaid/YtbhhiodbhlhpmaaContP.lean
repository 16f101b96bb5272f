/-
  Plain laws on the bounds of a contact ratio: what they are, that they close in, that they grow with an addendum.
-/
import Derived.Test.YtbhhiodbhlhpmaaRootP
import Derived.Test.YtbhhiodbhlhpmaaGreatP
namespace Go.Proofs.Ytbhhiodbhlhpmaa
set_option linter.unusedVariables false

/-- The square of the side on the line of action, times Hyp twice. -/
def sidS (t m a c h : Int) : Int := outD t m a * h * (outD t m a * h) - pitD t m * c * (pitD t m * c)
theorem outh_bd {t m a s c h : Int} (v : PV t m a s c h) : 0 ≤ outD t m a * h ∧ outD t m a * h ≤ 1220000000 := by
  have h1 := outD_bd v.bt v.bm v.ba
  have := v.bh
  exact mul_bd (X := 1220000) (Y := 1000) (by omega) (by omega)
theorem pitc_bd {t m a s c h : Int} (v : PV t m a s c h) : 0 ≤ pitD t m * c ∧ pitD t m * c ≤ 1200000000 := by
  have h1 := pitD_bd v.bt v.bm
  have := v.bc
  exact mul_bd (X := 1200000) (Y := 1000) (by omega) (by omega)
theorem pits_bd {t m a s c h : Int} (v : PV t m a s c h) : 0 ≤ pitD t m * s ∧ pitD t m * s ≤ 1200000000 := by
  have h1 := pitD_bd v.bt v.bm
  have := v.bs
  exact mul_bd (X := 1200000) (Y := 1000) (by omega) (by omega)
theorem sid_bd {t m a s c h : Int} (v : PV t m a s c h) : pitD t m * s * (pitD t m * s) ≤ sidS t m a c h ∧ 0 ≤ sidS t m a c h ∧ sidS t m a c h ≤ 1488400000000000000 := by
  have h1 := outh_bd v
  have h2 := mul_bd (x := outD t m a * h) (y := outD t m a * h) (X := 1220000000) (Y := 1220000000) h1 h1
  have h3 := pitc_bd v
  have h4 := mul_bd (x := pitD t m * c) (y := pitD t m * c) (X := 1200000000) (Y := 1200000000) h3 h3
  have h5 := pits_bd v
  have h6 := mul_bd (x := pitD t m * s) (y := pitD t m * s) (X := 1200000000) (Y := 1200000000) h5 h5
  have h7 : pitD t m * h ≤ outD t m a * h := by
    refine Int.mul_le_mul_of_nonneg_right ?_ (by have := v.bh; omega)
    have := add_bd v.bm v.ba
    unfold pitD outD
    omega
  have h8 := sqI_le (a := pitD t m * h) (b := outD t m a * h) (Int.mul_nonneg (by have := pitD_bd v.bt v.bm; omega) (by have := v.bh; omega)) h7
  have e : pitD t m * h * (pitD t m * h) = pitD t m * s * (pitD t m * s) + pitD t m * c * (pitD t m * c) := by
    have := v.sq
    generalize pitD t m = P
    have e1 : P * h * (P * h) = P * P * (h * h) := by grind
    rw [e1, ← this]
    grind
  unfold sidS
  omega
theorem root_sid {t m a s c h : Int} (v : PV t m a s c h) : pitD t m * s ≤ rootI (sidS t m a c h) ∧ 0 ≤ rootI (sidS t m a c h) ∧ rootI (sidS t m a c h) ≤ 1220000000 := by
  obtain ⟨h1, h2, h3⟩ := sid_bd v
  exact ⟨rootI_ge h2 h1, (rootI_spec h2).1, rootI_le h2 (by omega) (by omega)⟩
theorem up_sid {t m a s c h : Int} (v : PV t m a s c h) : rootI (sidS t m a c h) ≤ upI (sidS t m a c h) ∧ 0 ≤ upI (sidS t m a c h) ∧ upI (sidS t m a c h) ≤ 1220000001 := by
  have h1 := upI_spec (sid_bd v).2.1
  have h2 := root_sid v
  omega
theorem sid_mono {t m a s c h : Int} (v : PV t m a s c h) : sidS t m a c h ≤ sidS t m (a + 1) c h := by
  have h1 := outh_bd v
  have h7 : outD t m a * h ≤ outD t m (a + 1) * h := by
    refine Int.mul_le_mul_of_nonneg_right ?_ (by have := v.bh; omega)
    unfold outD
    have := Int.mul_le_mul_of_nonneg_right (show 2 * a ≤ 2 * (a + 1) by omega) (show 0 ≤ m by have := v.bm; omega)
    omega
  have h8 := sqI_le (a := outD t m a * h) (b := outD t m (a + 1) * h) h1.1 h7
  unfold sidS
  omega
def linD (t t9 m s : Int) : Int := (pitD t m + pitD t9 m) * s
theorem linD_add (t t9 m s : Int) : linD t t9 m s = pitD t m * s + pitD t9 m * s := Int.add_mul _ _ _
theorem lin_swap (t t9 m s : Int) : linD t9 t m s = linD t t9 m s := by unfold linD; rw [Int.add_comm]
def stpD (m c : Int) : Int := 20 * m * c
theorem stp_bd {m c : Int} (hm : 1 ≤ m ∧ m ≤ 500) (hc : 1 ≤ c ∧ c ≤ 1000) : 20 ≤ stpD m c ∧ stpD m c ≤ 10000000 := by
  unfold stpD
  have h1 := mul_bd (x := 20 * m) (y := c) (X := 10000) (Y := 1000) (by omega) (by omega)
  have h2 := Int.mul_le_mul (a := 20) (b := 1) (c := 20 * m) (d := c) (by omega) (by omega) (by omega) (by omega)
  omega

def loN (t m a s c h t9 a9 : Int) : Int := rootI (sidS t m a c h) + rootI (sidS t9 m a9 c h) - linD t t9 m s
def hiN (t m a s c h t9 a9 : Int) : Int := upI (sidS t m a c h) + upI (sidS t9 m a9 c h) - linD t t9 m s
def loQ (t m a s c h t9 a9 : Int) : Int := loN t m a s c h t9 a9 * 1000 * 33215 / (stpD m c * 104348)
def hiQ (t m a s c h t9 a9 : Int) : Int := -(-(hiN t m a s c h t9 a9 * 1000 * 33102) / (stpD m c * 103993))
def cbL (t m a s c h t9 m9 a9 s9 c9 h9 : Int) : Int := if matC t m a s c h t9 m9 a9 s9 c9 h9 = 0 then loQ t m a s c h t9 a9 else 0
def cbH (t m a s c h t9 m9 a9 s9 c9 h9 : Int) : Int := if matC t m a s c h t9 m9 a9 s9 c9 h9 = 0 then hiQ t m a s c h t9 a9 else 0
theorem cb_swap (t m a s c h t9 m9 a9 s9 c9 h9 : Int) : cbL t9 m9 a9 s9 c9 h9 t m a s c h = cbL t m a s c h t9 m9 a9 s9 c9 h9 ∧ cbH t9 m9 a9 s9 c9 h9 t m a s c h = cbH t m a s c h t9 m9 a9 s9 c9 h9 := by
  unfold cbL cbH
  rw [matC_swap t m a s c h]
  by_cases e : matC t m a s c h t9 m9 a9 s9 c9 h9 = 0
  · obtain ⟨h1, h2, rfl, rfl, rfl, rfl⟩ := matC_ok e
    rw [if_pos e, if_pos e, if_pos e, if_pos e]
    unfold loQ hiQ loN hiN
    rw [lin_swap, Int.add_comm (rootI (sidS t9 m a9 c h)), Int.add_comm (upI (sidS t9 m a9 c h))]
    exact ⟨rfl, rfl⟩
  · rw [if_neg e, if_neg e, if_neg e, if_neg e]
    exact ⟨rfl, rfl⟩
theorem lohi_bd {t m a s c h t9 a9 : Int} (v : PV t m a s c h) (v9 : PV t9 m a9 s c h) : 0 ≤ loN t m a s c h t9 a9 ∧ loN t m a s c h t9 a9 ≤ hiN t m a s c h t9 a9 ∧ hiN t m a s c h t9 a9 ≤ 2440000002 := by
  have h1 := root_sid v
  have h2 := root_sid v9
  have h3 := up_sid v
  have h4 := up_sid v9
  have h5 := pits_bd v
  have h6 := pits_bd v9
  have := linD_add t t9 m s
  unfold loN hiN
  omega
theorem frac {X Y : Int} (hY : 0 ≤ Y) (h : X * 104348 ≤ Y * 33215) : X * 103993 ≤ Y * 33102 := by omega
theorem lohi_le {t m a s c h t9 a9 : Int} (v : PV t m a s c h) (v9 : PV t9 m a9 s c h) : 0 ≤ loQ t m a s c h t9 a9 ∧ loQ t m a s c h t9 a9 ≤ hiQ t m a s c h t9 a9 := by
  obtain ⟨h1, h2, h3⟩ := lohi_bd v v9
  have hs := stp_bd v.bm v.bc
  unfold loQ hiQ
  generalize loN t m a s c h t9 a9 = L at *
  generalize hiN t m a s c h t9 a9 = H at *
  generalize stpD m c = D at *
  have q0 : 0 ≤ L * 1000 * 33215 / (D * 104348) := Int.ediv_nonneg (by omega) (by omega)
  refine ⟨q0, ?_⟩
  have q1 := Int.ediv_mul_le (L * 1000 * 33215) (show D * 104348 ≠ 0 by omega)
  generalize L * 1000 * 33215 / (D * 104348) = q at *
  have q2 := frac (X := q * D) (Y := L * 1000) (by omega) (by rw [Int.mul_assoc]; exact q1)
  have q3 : -(H * 1000 * 33102) / (D * 103993) ≤ -q := by
    refine Int.ediv_le_of_le_mul (by omega) ?_
    have e : -q * (D * 103993) = -(q * D * 103993) := by grind
    omega
  omega
/-- A greater addendum: no bound falls. -/
theorem lohi_mono {t m a s c h t9 a9 : Int} (v : PV t m a s c h) (v9 : PV t9 m a9 s c h) : loQ t m a s c h t9 a9 ≤ loQ t m (a + 1) s c h t9 a9 ∧ hiQ t m a s c h t9 a9 ≤ hiQ t m (a + 1) s c h t9 a9 := by
  have hs := stp_bd v.bm v.bc
  have h0 := sid_bd v
  have h1 := rootI_mono h0.2.1 (sid_mono v)
  have h2 := upI_mono h0.2.1 (sid_mono v)
  constructor
  · unfold loQ
    refine Int.ediv_le_ediv (by omega) ?_
    unfold loN
    omega
  · unfold hiQ
    have : -(hiN t m (a + 1) s c h t9 a9 * 1000 * 33102) / (stpD m c * 103993) ≤ -(hiN t m a s c h t9 a9 * 1000 * 33102) / (stpD m c * 103993) := by
      refine Int.ediv_le_ediv (by omega) ?_
      unfold hiN
      omega
    omega
/-- What the law on contacts asks of the bounds, case by case. -/
theorem cb_cases (t m a s c h t9 m9 a9 s9 c9 h9 : Int) : matC t m a s c h t9 m9 a9 s9 c9 h9 ≠ 0 ∨
    (matC t m a s c h t9 m9 a9 s9 c9 h9 = 0 ∧ (1 ≤ a ∧ a ≤ 20) ∧ 0 ≤ cbL t m a s c h t9 m9 a9 s9 c9 h9 ∧ cbL t m a s c h t9 m9 a9 s9 c9 h9 ≤ cbH t m a s c h t9 m9 a9 s9 c9 h9 ∧
      (matC t m (a + 1) s c h t9 m9 a9 s9 c9 h9 ≠ 0 ∨ (matC t m (a + 1) s c h t9 m9 a9 s9 c9 h9 = 0 ∧ cbL t m a s c h t9 m9 a9 s9 c9 h9 ≤ cbL t m (a + 1) s c h t9 m9 a9 s9 c9 h9 ∧ cbH t m a s c h t9 m9 a9 s9 c9 h9 ≤ cbH t m (a + 1) s c h t9 m9 a9 s9 c9 h9))) := by
  by_cases e : matC t m a s c h t9 m9 a9 s9 c9 h9 = 0
  · obtain ⟨h1, h2, rfl, rfl, rfl, rfl⟩ := matC_ok e
    have v := vProf_iff.1 h1
    have v9 := vProf_iff.1 h2
    have k := lohi_le v v9
    refine .inr ⟨e, v.ba, by simp only [cbL, e, if_true]; exact k.1, by simp only [cbL, cbH, e, if_true]; exact k.2, ?_⟩
    by_cases e2 : matC t m (a + 1) s c h t9 m a9 s c h = 0
    · have k2 := lohi_mono v v9
      exact .inr ⟨e2, by simp only [cbL, e, e2, if_true]; exact k2.1, by simp only [cbH, e, e2, if_true]; exact k2.2⟩
    · exact .inl e2
  · exact .inl e
end Go.Proofs.Ytbhhiodbhlhpmaa
