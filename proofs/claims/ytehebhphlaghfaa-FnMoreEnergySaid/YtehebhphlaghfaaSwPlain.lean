/-
  The plain laws of swings: energies in order stay in order; the orbit of the swings.
-/
import Derived.Test.YtehebhphlaghfaaSwing
namespace Go.Proofs.Ytehebhphlaghfaa
set_option linter.unusedVariables false

theorem swL_mono {l x y : Int} (hl : 0 ≤ l ∧ l ≤ 1000) (h : x ≤ y) : swL l x ≤ swL l y := by
  obtain ⟨d, rfl⟩ : ∃ d, y = x + d := ⟨y - x, by omega⟩
  have h1 : 0 ≤ d * l := Int.mul_nonneg (by omega) hl.1
  have h2 : d * l ≤ d * 1000 := Int.mul_le_mul_of_nonneg_left hl.2 (by omega)
  unfold swL
  rw [Int.add_mul]
  omega
theorem swT_mono {u l q x y : Int} (hl : 0 ≤ l ∧ l ≤ 1000) (h : x ≤ y) (ht : swT u l q x = true) : swT u l q y = true := by
  have := swL_mono hl h
  simp [swT] at ht ⊢
  exact ⟨ht.1, by omega⟩
theorem swE_mono {u i l m q x y : Int} (hl : 0 ≤ l ∧ l ≤ 1000) (h : x ≤ y) (ht : swT u l q x = true) : swE u i l m q x ≤ swE u i l m q y := by
  have h1 := swL_mono hl h
  have h2 := swT_mono hl h ht
  unfold swE
  rw [if_pos ht, if_pos h2]
  omega
theorem swE_le {u i l m q x : Int} (ht : swT u l q x = true) : swE u i l m q x ≤ m := by
  unfold swE
  rw [if_pos ht]
  omega

/-- The greatest number below n that answers yes; -1 if there is none. -/
def upF (p : Int → Bool) : Nat → Int
  | 0 => -1
  | c + 1 => if p c = true then c else upF p c
theorem upF_yes {p : Int → Bool} {n : Nat} (h : p n = true) : upF p (n + 1) = n := by simp [upF, h]
theorem upF_no {p : Int → Bool} {n : Nat} (h : p n = false) : upF p (n + 1) = upF p n := by simp [upF, h]
theorem upF_gap {p : Int → Bool} {a b : Nat} (hab : a ≤ b) (h : ∀ x : Nat, a ≤ x → x < b → p x = false) : upF p b = upF p a := by
  induction b with
  | zero => rw [show a = 0 by omega]
  | succ b ih =>
    rcases Nat.lt_or_ge a (b + 1) with hlt | hge
    · rw [upF_no (h b (by omega) (by omega))]
      exact ih (by omega) (fun x h1 h2 => h x h1 (by omega))
    · rw [show a = b + 1 by omega]
theorem upF_none {p : Int → Bool} {b : Nat} (h : ∀ x : Nat, x < b → p x = false) : upF p b = -1 := by
  rw [upF_gap (Nat.zero_le b) (fun x _ h2 => h x h2)]
  rfl
theorem upF_spec (p : Int → Bool) (n : Nat) : (upF p n = -1 ∧ ∀ x : Nat, x < n → p x = false) ∨ (0 ≤ upF p n ∧ upF p n < n ∧ p (upF p n) = true) := by
  induction n with
  | zero => exact .inl ⟨rfl, fun x h => by omega⟩
  | succ n ih =>
    cases h : p n
    · rw [upF_no h]
      rcases ih with ⟨h1, h2⟩ | ih
      · refine .inl ⟨h1, fun x hx => ?_⟩
        rcases Nat.lt_or_ge x n with h3 | h3
        · exact h2 x h3
        · rw [show x = n by omega]; exact h
      · exact .inr ⟨ih.1, by omega, ih.2.2⟩
    · have := upF_yes (p := p) (n := n) h
      exact .inr ⟨by omega, by omega, by rw [this]; exact h⟩

/-- Does a swing from x tick and restore x? -/
def stP (u i l m q x : Int) : Bool := swT u l q x && (swE u i l m q x == x)
/-- The greatest energy that a swing with a tick restores, or -1. -/
def steady (u i l m q : Int) : Int := upF (stP u i l m q) (m.toNat + 1)

/-- How many of the next N swings tick before the first that does not. -/
def sil (u i l m q : Int) : Nat → Int → Int
  | 0, _ => 0
  | N + 1, x => if swT u l q x = true then 1 + sil u i l m q N (swE u i l m q x) else 0
theorem sil_bd (u i l m q : Int) (N : Nat) : ∀ x, 0 ≤ sil u i l m q N x ∧ sil u i l m q N x ≤ N := by
  induction N with
  | zero => intro x; simp [sil]
  | succ N ih =>
    intro x
    have := ih (swE u i l m q x)
    simp only [sil]
    split <;> omega
theorem sil_tick {u i l m q x : Int} {N : Nat} (h : swT u l q x = true) : sil u i l m q (N + 1) x = 1 + sil u i l m q N (swE u i l m q x) := by simp [sil, h]
theorem sil_stop {u i l m q x : Int} {N : Nat} (h : swT u l q x = false) : sil u i l m q N x = 0 := by
  cases N <;> simp [sil, h]
theorem sil_fix {u i l m q x : Int} (h : swT u l q x = true) (hf : swE u i l m q x = x) (N : Nat) : sil u i l m q N x = N := by
  induction N with
  | zero => rfl
  | succ N ih => rw [sil_tick h, hf, ih]; omega
/-- More energy never stops earlier. -/
theorem sil_mono {u i l m q : Int} (hl : 0 ≤ l ∧ l ≤ 1000) (N : Nat) : ∀ {x y : Int}, x ≤ y → sil u i l m q N x ≤ sil u i l m q N y := by
  induction N with
  | zero => intro x y _; simp [sil]
  | succ N ih =>
    intro x y h
    cases hx : swT u l q x
    · rw [sil_stop hx]; exact (sil_bd _ _ _ _ _ _ _).1
    · rw [sil_tick hx, sil_tick (swT_mono hl h hx)]
      have := ih (swE_mono (u := u) (i := i) (m := m) (q := q) hl h hx)
      omega

/-- The way of the energies: up (d) or down, j swings behind n. -/
def Way (d : Bool) (u i l m q n : Int) (j : Nat) (x : Int) : Prop :=
  if d = true then n + j ≤ x ∧ (swT u l q x = true → x ≤ swE u i l m q x) else x + j ≤ n ∧ (swT u l q x = true → swE u i l m q x ≤ x)
def wayMu (d : Bool) (m x : Int) : Nat := if d = true then (m - x).toNat else x.toNat
theorem way_start (u i l m q n : Int) : ∃ d, Way d u i l m q n 0 n := by
  rcases Int.le_total n (swE u i l m q n) with h | h
  · exact ⟨true, by simp [Way]; exact fun _ => h⟩
  · exact ⟨false, by simp [Way]; exact fun _ => h⟩
theorem way_step {d : Bool} {u i l m q n x : Int} {j : Nat} (hl : 0 ≤ l ∧ l ≤ 1000) (hx : 0 ≤ x ∧ x ≤ m) (hy : 0 ≤ swE u i l m q x ∧ swE u i l m q x ≤ m) (h : Way d u i l m q n j x) (ht : swT u l q x = true) (hne : swE u i l m q x ≠ x) :
    Way d u i l m q n (j + 1) (swE u i l m q x) ∧ wayMu d m (swE u i l m q x) < wayMu d m x := by
  cases d
  · simp only [Way, Bool.false_eq_true, if_false] at h ⊢
    have h2 := h.2 ht
    refine ⟨⟨by omega, fun ht2 => swE_mono hl h2 ht2⟩, ?_⟩
    simp [wayMu]
    omega
  · simp only [Way, if_true] at h ⊢
    have h2 := h.2 ht
    refine ⟨⟨by omega, fun _ => swE_mono hl h2 ht⟩, ?_⟩
    simp [wayMu]
    omega
theorem way_bd {d : Bool} {u i l m q n x : Int} {j : Nat} (hn : 0 ≤ n ∧ n ≤ m) (hx : 0 ≤ x ∧ x ≤ m) (h : Way d u i l m q n j x) : (j : Int) ≤ m := by
  cases d
  · simp only [Way, Bool.false_eq_true, if_false] at h; omega
  · simp only [Way, if_true] at h; omega
end Go.Proofs.Ytehebhphlaghfaa
