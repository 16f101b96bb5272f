/-
  The least number from which on a test holds.
-/
import Derived.Test.YtgkpganbepbjnaaBase
namespace Go.Proofs.Ytgkpganbepbjnaa
set_option linter.unusedVariables false

/-- The least number below n from which on p holds; n if there is none. -/
def leastN (p : Nat → Bool) : Nat → Nat
  | 0 => 0
  | c + 1 => if p c = true then leastN p c else c + 1
theorem leastN_eq {p : Nat → Bool} {n : Nat} : ∀ {k : Nat}, k ≤ n → (∀ t, t < k → p t = false) → (∀ t, k ≤ t → t < n → p t = true) → leastN p n = k := by
  induction n with
  | zero => intro k h _ _; simp [leastN]; omega
  | succ n ih =>
    intro k h h1 h2
    rcases Nat.lt_or_ge n k with hlt | hge
    · have := h1 n hlt
      simp [leastN, this]; omega
    · have := h2 n hge (by omega)
      simp only [leastN, this, if_true]
      exact ih hge h1 (fun t a b => h2 t a (by omega))
theorem leastN_le (p : Nat → Bool) (n : Nat) : leastN p n ≤ n := by
  induction n with
  | zero => simp [leastN]
  | succ n ih => simp only [leastN]; split <;> omega
theorem leastN_pos {p : Nat → Bool} (h : p 0 = false) (n : Nat) : 0 < leastN p (n + 1) := by
  induction n with
  | zero => simp [leastN, h]
  | succ n ih => simp only [leastN] at ih ⊢; split <;> omega
/-- Of a test that stays: below the least number it fails, from there on it holds. -/
theorem leastN_spec {p : Nat → Bool} (n : Nat) (hm : ∀ a b, a ≤ b → b < n → p a = true → p b = true) : (∀ t, t < leastN p n → p t = false) ∧ (∀ t, leastN p n ≤ t → t < n → p t = true) := by
  induction n with
  | zero => exact ⟨fun t h => by simp [leastN] at h, fun t _ h => by omega⟩
  | succ n ih =>
    have ih := ih (fun a b h1 h2 h3 => hm a b h1 (by omega) h3)
    cases h : p n
    · have e : leastN p (n + 1) = n + 1 := by simp [leastN, h]
      rw [e]
      refine ⟨fun t ht => ?_, fun t h1 h2 => by omega⟩
      cases h4 : p t
      · rfl
      · have := hm t n (by omega) (by omega) h4
        rw [h] at this; cases this
    · have e : leastN p (n + 1) = leastN p n := by simp [leastN, h]
      rw [e]
      refine ⟨ih.1, fun t h1 h2 => ?_⟩
      rcases Nat.lt_or_ge t n with h3 | h3
      · exact ih.2 t h1 h3
      · rw [show t = n by omega]; exact h

theorem leastN_no {p : Nat → Bool} {n : Nat} (h : p n = false) : leastN p (n + 1) = n + 1 := by simp [leastN, h]
theorem leastN_yes {p : Nat → Bool} {n : Nat} (h : p n = true) : leastN p (n + 1) ≤ n := by
  simp only [leastN, h, if_true]
  exact leastN_le p n

end Go.Proofs.Ytgkpganbepbjnaa
