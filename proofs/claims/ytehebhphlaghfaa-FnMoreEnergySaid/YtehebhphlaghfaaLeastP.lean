/-
  The plain laws of the least torque and the least start.
-/
import Derived.Test.YtehebhphlaghfaaMany
namespace Go.Proofs.Ytehebhphlaghfaa
set_option linter.unusedVariables false

/-- The least number below n from which on p holds; n if there is none. -/
def leastN (p : Nat → Bool) : Nat → Nat
  | 0 => 0
  | c + 1 => if p c = true then leastN p c else c + 1
theorem leastN_eq {p : Nat → Bool} {n : Nat} : ∀ {k : Nat}, k ≤ n → (∀ t, t < k → p t = false) → (∀ t, k ≤ t → t < n → p t = true) → leastN p n = k := by
  induction n with
  | zero => intro k h _ _; simp [leastN]; omega
  | succ n ih =>
    intro k h h1 h2
    rcases Nat.lt_or_ge n k with hlt | hge
    · have := h1 n hlt
      simp [leastN, this]; omega
    · have := h2 n hge (by omega)
      simp only [leastN, this, if_true]
      exact ih hge h1 (fun t a b => h2 t a (by omega))
theorem leastN_le (p : Nat → Bool) (n : Nat) : leastN p n ≤ n := by
  induction n with
  | zero => simp [leastN]
  | succ n ih => simp only [leastN]; split <;> omega
theorem leastN_pos {p : Nat → Bool} (h : p 0 = false) (n : Nat) : 0 < leastN p (n + 1) := by
  induction n with
  | zero => simp [leastN, h]
  | succ n ih => simp only [leastN] at ih ⊢; split <;> omega
/-- Of a test that stays: below the least number it fails, from there on it holds. -/
theorem leastN_spec {p : Nat → Bool} (n : Nat) (hm : ∀ a b, a ≤ b → b < n → p a = true → p b = true) : (∀ t, t < leastN p n → p t = false) ∧ (∀ t, leastN p n ≤ t → t < n → p t = true) := by
  induction n with
  | zero => exact ⟨fun t h => by simp [leastN] at h, fun t _ h => by omega⟩
  | succ n ih =>
    have ih := ih (fun a b h1 h2 h3 => hm a b h1 (by omega) h3)
    cases h : p n
    · have e : leastN p (n + 1) = n + 1 := by simp [leastN, h]
      rw [e]
      refine ⟨fun t ht => ?_, fun t h1 h2 => by omega⟩
      cases h4 : p t
      · rfl
      · have := hm t n (by omega) (by omega) h4
        rw [h] at this; cases this
    · have e : leastN p (n + 1) = leastN p n := by simp [leastN, h]
      rw [e]
      refine ⟨ih.1, fun t h1 h2 => ?_⟩
      rcases Nat.lt_or_ge t n with h3 | h3
      · exact ih.2 t h1 h3
      · rw [show t = n by omega]; exact h

theorem swT_up {u l q r x : Int} (hq : 0 ≤ q) (h : q ≤ r) (ht : swT u l q x = true) : swT u l r x = true := by
  simp [swT] at ht ⊢
  exact ⟨by omega, by omega⟩
theorem swE_up {u i l m q r x : Int} (hi : 0 ≤ i) (hq : 0 ≤ q) (h : q ≤ r) (ht : swT u l q x = true) : swE u i l m q x ≤ swE u i l m r x := by
  have h2 := swT_up hq h ht
  have h3 : i * q ≤ i * r := Int.mul_le_mul_of_nonneg_left h hi
  unfold swE
  rw [if_pos ht, if_pos h2]
  omega
/-- More torque never stops earlier. -/
theorem sil_up {u i l m q r : Int} (hi : 0 ≤ i) (hl : 0 ≤ l ∧ l ≤ 1000) (hq : 0 ≤ q) (h : q ≤ r) (N : Nat) : ∀ {x y : Int}, x ≤ y → sil u i l m q N x ≤ sil u i l m r N y := by
  induction N with
  | zero => intro x y _; simp [sil]
  | succ N ih =>
    intro x y hxy
    cases hx : swT u l q x
    · rw [sil_stop hx]; exact (sil_bd _ _ _ _ _ _ _).1
    · have hx2 := swT_mono hl hxy hx
      rw [sil_tick hx, sil_tick (swT_up hq h hx2)]
      have h1 := swE_mono (u := u) (i := i) (m := m) (q := q) hl hxy hx
      have h2 := swE_up (m := m) hi hq h hx2
      have := ih (show swE u i l m q x ≤ swE u i l m r y by omega)
      omega
theorem sil_rest {u i l m x : Int} {N : Nat} : sil u i l m 0 N x = 0 := sil_stop (by simp [swT])

/-- Do N swings with the torque t all tick? -/
def ltP (u i l m n : Int) (N : Nat) (t : Nat) : Bool := sil u i l m t N n == N
/-- Do N swings from the energy x all tick? -/
def lsP (u i l m q : Int) (N : Nat) (x : Nat) : Bool := sil u i l m q N x == N
theorem ltP_mono {u i l m n : Int} {N : Nat} (hi : 0 ≤ i) (hl : 0 ≤ l ∧ l ≤ 1000) {a b : Nat} (h : a ≤ b) (hp : ltP u i l m n N a = true) : ltP u i l m n N b = true := by
  have h1 := sil_up (u := u) (m := m) (q := a) (r := b) hi hl (by omega) (by omega) N (Int.le_refl n)
  have h2 := (sil_bd u i l m b N n).2
  simp [ltP] at hp ⊢
  omega
theorem lsP_mono {u i l m q : Int} {N : Nat} (hl : 0 ≤ l ∧ l ≤ 1000) {a b : Nat} (h : a ≤ b) (hp : lsP u i l m q N a = true) : lsP u i l m q N b = true := by
  have h1 := sil_mono (u := u) (i := i) (m := m) (q := q) hl N (show (a : Int) ≤ b by omega)
  have h2 := (sil_bd u i l m q N b).2
  simp [lsP] at hp ⊢
  omega
theorem ltP_zero {u i l m n : Int} {N : Nat} (hN : 1 ≤ N) : ltP u i l m n N 0 = false := by
  have : sil u i l m ((0 : Nat) : Int) N n = 0 := sil_rest
  simp only [ltP, this]
  simp; omega

def ltCd (z u i l m N n k : Int) : Int := if vBeat z u i l m n k = true then (if inB N 1 2000 = true then 0 else 2) else 1
def ltQ (u i l m N n : Int) : Nat := leastN (ltP u i l m n N.toNat) 1001
def ltR (z u i l m N n k : Int) : Int := if ltCd z u i l m N n k = 0 then (if ltQ u i l m N n ≤ 1000 then ltQ u i l m N n else 0) else 0
def ltC (z u i l m N n k : Int) : Int := if ltCd z u i l m N n k = 0 then (if ltQ u i l m N n ≤ 1000 then 0 else 3) else ltCd z u i l m N n k
def lsCd (z u i l m q N : Int) : Int := if vEsc z u i l m = true then (if (inB q 0 1000 && inB N 1 2000) = true then 0 else 2) else 1
def lsQ (u i l m q N : Int) : Nat := leastN (lsP u i l m q N.toNat) (m + 1).toNat
def lsR (z u i l m q N : Int) : Int := if lsCd z u i l m q N = 0 then (if lsQ u i l m q N ≤ m.toNat then lsQ u i l m q N else 0) else 0
def lsC (z u i l m q N : Int) : Int := if lsCd z u i l m q N = 0 then (if lsQ u i l m q N ≤ m.toNat then 0 else 3) else lsCd z u i l m q N
theorem leastN_no {p : Nat → Bool} {n : Nat} (h : p n = false) : leastN p (n + 1) = n + 1 := by simp [leastN, h]
theorem leastN_yes {p : Nat → Bool} {n : Nat} (h : p n = true) : leastN p (n + 1) ≤ n := by
  simp only [leastN, h, if_true]
  exact leastN_le p n
theorem ltP_at {u i l m n : Int} {N t : Nat} (v : Bool) (h : ltP u i l m n N t = v) : (sil u i l m t N n == N) = v := h
theorem lsP_at {u i l m q : Int} {N x : Nat} (v : Bool) (h : lsP u i l m q N x = v) : (sil u i l m q N x == N) = v := h
theorem ltP_at' {u i l m n : Int} {N t : Nat} {y : Int} (hy : (t : Int) = y) (v : Bool) (h : ltP u i l m n N t = v) : (sil u i l m y N n == N) = v := by
  subst hy
  exact h
theorem lsP_at' {u i l m q : Int} {N x : Nat} {y : Int} (hy : (x : Int) = y) (v : Bool) (h : lsP u i l m q N x = v) : (sil u i l m q N y == N) = v := by
  subst hy
  exact h

end Go.Proofs.Ytehebhphlaghfaa
