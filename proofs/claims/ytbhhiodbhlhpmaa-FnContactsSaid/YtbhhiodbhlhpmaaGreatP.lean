/-
  Plain laws behind FnInterference: profiles in either order; the greatest addendum.
-/
import Derived.Test.YtbhhiodbhlhpmaaInter
import Derived.Test.YtbhhiodbhlhpmaaGreat
namespace Go.Proofs.Ytbhhiodbhlhpmaa
set_option linter.unusedVariables false

theorem matC_swap (t m a s c h t9 m9 a9 s9 c9 h9 : Int) : matC t9 m9 a9 s9 c9 h9 t m a s c h = matC t m a s c h t9 m9 a9 s9 c9 h9 := by
  unfold matC
  cases h1 : vProf t m a s c h <;> cases h2 : vProf t9 m9 a9 s9 c9 h9 <;> simp
  by_cases h3 : m = m9 ∧ s = s9 ∧ c = c9 ∧ h = h9
  · obtain ⟨rfl, rfl, rfl, rfl⟩ := h3
    simp
  · rw [if_neg h3, if_neg (fun h4 => h3 ⟨h4.1.symm, h4.2.1.symm, h4.2.2.1.symm, h4.2.2.2.symm⟩)]
theorem infB_swap (t m a s c h t9 m9 a9 s9 c9 h9 : Int) : infB t9 m9 a9 s9 c9 h9 t m a s c h = infB t m a s c h t9 m9 a9 s9 c9 h9 := by
  unfold infB
  rw [matC_swap t m a s c h]
  split
  · exact Bool.or_comm _ _
  · rfl
theorem gaF_spec (p : Int → Bool) (n : Nat) : (0 ≤ gaF p n ∧ gaF p n ≤ n) ∧ (gaF p n = 0 ∨ p (gaF p n) = true) ∧ ∀ j : Nat, gaF p n < j → j ≤ n → p j = false := by
  induction n with
  | zero => exact ⟨by simp [gaF], .inl rfl, fun j h1 h2 => by simp [gaF] at h1; omega⟩
  | succ n ih =>
    cases h : p ((n : Int) + 1)
    · rw [gaF_no h]
      refine ⟨by omega, ih.2.1, fun j h1 h2 => ?_⟩
      rcases Nat.lt_or_ge n j with h3 | h3
      · rw [show (j : Int) = (n : Int) + 1 by omega]; exact h
      · exact ih.2.2 j h1 h3
    · rw [gaF_yes h]
      exact ⟨by omega, .inr h, fun j h1 h2 => by omega⟩
theorem bey_mono {t m a b s c h t9 m9 : Int} (ht : 0 ≤ t) (hm : 0 ≤ m) (ha : 0 ≤ a) (hab : a ≤ b) (hh : 0 ≤ h) (hb : bey t m a s c h t9 m9 = true) : bey t m b s c h t9 m9 = true := by
  unfold bey at hb ⊢
  have h1 := of_decide_eq_true hb
  refine decide_eq_true (Int.lt_of_lt_of_le h1 ?_)
  have h2 : 0 ≤ outD t m a := by
    unfold outD
    have := Int.mul_nonneg (Int.mul_nonneg (show (0 : Int) ≤ 10 by omega) ht) hm
    have := Int.mul_nonneg (Int.mul_nonneg (show (0 : Int) ≤ 2 by omega) ha) hm
    omega
  have h3 : outD t m a ≤ outD t m b := by
    unfold outD
    have := Int.mul_le_mul_of_nonneg_right (show 2 * a ≤ 2 * b by omega) hm
    omega
  have h4 : outD t m a * h ≤ outD t m b * h := Int.mul_le_mul_of_nonneg_right h3 hh
  have h5 : 0 ≤ outD t m a * h := Int.mul_nonneg h2 hh
  exact Int.mul_le_mul h4 h4 h5 (by omega)
theorem matC_add {t m a s c h t9 m9 a9 s9 c9 h9 : Int} (k : Int) (hk : 1 ≤ k ∧ k ≤ 20) (e : matC t m a s c h t9 m9 a9 s9 c9 h9 = 0) : matC t m k s c h t9 m9 k s9 c9 h9 = 0 := by
  obtain ⟨h1, h2, rfl, rfl, rfl, rfl⟩ := matC_ok e
  have k2 := inB_iff.2 hk
  have v1 : vProf t m k s c h = true := by simp only [vProf, Bool.and_eq_true] at h1 ⊢; exact ⟨⟨h1.1.1, k2⟩, h1.2⟩
  have v2 : vProf t9 m k s c h = true := by simp only [vProf, Bool.and_eq_true] at h2 ⊢; exact ⟨⟨h2.1.1, k2⟩, h2.2⟩
  simp [matC, v1, v2]
theorem infB_add {t m a s c h t9 m9 a9 s9 c9 h9 : Int} (k : Int) (hk : 1 ≤ k ∧ k ≤ 20) (e : matC t m a s c h t9 m9 a9 s9 c9 h9 = 0) : infB t m k s c h t9 m9 k s9 c9 h9 = !gaP t m s c h t9 k := by
  have h0 := matC_add k hk e
  obtain ⟨h1, h2, rfl, rfl, rfl, rfl⟩ := matC_ok e
  simp [infB, h0, gaP]
/-- What the greatest addendum is, case by case. -/
theorem ga_cases (t m a s c h t9 m9 a9 s9 c9 h9 : Int) :
    (matC t m a s c h t9 m9 a9 s9 c9 h9 ≠ 0 ∧ gaC t m a s c h t9 m9 a9 s9 c9 h9 ≠ 0) ∨
    (matC t m a s c h t9 m9 a9 s9 c9 h9 = 0 ∧ gaC t m a s c h t9 m9 a9 s9 c9 h9 = 3 ∧ infB t m a s c h t9 m9 a9 s9 c9 h9 = true) ∨
    (matC t m a s c h t9 m9 a9 s9 c9 h9 = 0 ∧ gaC t m a s c h t9 m9 a9 s9 c9 h9 = 0 ∧ ∃ k, gaK t m a s c h t9 m9 a9 s9 c9 h9 = k ∧ (1 ≤ k ∧ k ≤ 20) ∧
      (matC t m k s c h t9 m9 k s9 c9 h9 = 0 ∧ infB t m k s c h t9 m9 k s9 c9 h9 = false) ∧
      (k ≠ 20 → matC t m (k + 1) s c h t9 m9 (k + 1) s9 c9 h9 = 0 ∧ infB t m (k + 1) s c h t9 m9 (k + 1) s9 c9 h9 = true)) := by
  by_cases e : matC t m a s c h t9 m9 a9 s9 c9 h9 = 0
  · obtain ⟨hb, hp, hn⟩ := gaF_spec (gaP t m s c h t9) 20
    by_cases h0 : gaF (gaP t m s c h t9) 20 = 0
    · refine .inr (.inl ⟨e, by simp [gaC, e, h0], ?_⟩)
      have h1 := hn 1 (by omega) (by omega)
      obtain ⟨w1, w2, e1, e2, e3, e4⟩ := matC_ok e
      have p1 := vProf_iff.1 w1
      have p2 := vProf_iff.1 w2
      simp [gaP] at h1
      have q : bey t m a s c h t9 m = true ∨ bey t9 m a9 s c h t m = true := by
        cases hx : bey t m 1 s c h t9 m
        · have hy := h1 hx
          exact .inr (bey_mono (a := 1) (by have := p2.bt; omega) (by have := p1.bm; omega) (by omega) (by have := p2.ba; omega) (by have := p1.bh; omega) hy)
        · exact .inl (bey_mono (a := 1) (by have := p1.bt; omega) (by have := p1.bm; omega) (by omega) (by have := p1.ba; omega) (by have := p1.bh; omega) hx)
      subst e1 e2 e3 e4
      simp [infB, e]
      exact q
    · refine .inr (.inr ⟨e, by simp [gaC, e, h0], gaF (gaP t m s c h t9) 20, by simp [gaK, e], by omega, ⟨matC_add _ (by omega) e, ?_⟩, fun h20 => ⟨matC_add _ (by omega) e, ?_⟩⟩)
      · rw [infB_add _ (by omega) e]
        rcases hp with hp | hp
        · exact absurd hp h0
        · simp [hp]
      · rw [infB_add _ (by omega) e]
        have := hn (gaF (gaP t m s c h t9) 20 + 1).toNat (by omega) (by omega)
        rw [show (((gaF (gaP t m s c h t9) 20 + 1).toNat : Nat) : Int) = gaF (gaP t m s c h t9) 20 + 1 by omega] at this
        simp [this]
  · exact .inl ⟨e, by simp [gaC, e]⟩
end Go.Proofs.Ytbhhiodbhlhpmaa
