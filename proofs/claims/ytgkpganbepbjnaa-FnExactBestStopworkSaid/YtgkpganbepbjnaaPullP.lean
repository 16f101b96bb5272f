/-
  The torque of a spring at a position: the plain words.
-/
import Derived.Test.YtgkpganbepbjnaaSpring
import Derived.Test.YtgkpganbepbjnaaNear
namespace Go.Proofs.Ytgkpganbepbjnaa
set_option linter.unusedVariables false

def kUp (zs : List (Int × Int)) (t : Int) : Nat → Nat → Nat
  | 0, k => k
  | f + 1, k => if (zs.getD k (0, 0)).1 < t then kUp zs t f (k + 1) else k
theorem kUp_eq {zs : List (Int × Int)} {t : Int} : ∀ (f k k' : Nat), k ≤ k' → k' ≤ k + f → (∀ j, k ≤ j → j < k' → (zs.getD j (0, 0)).1 < t) → ¬ (zs.getD k' (0, 0)).1 < t → kUp zs t f k = k' := by
  intro f
  induction f with
  | zero => intro k k' h1 h2 _ _; simp [kUp]; omega
  | succ f ih =>
    intro k k' h1 h2 h3 h4
    rcases Nat.lt_or_ge k k' with h | h
    · simp only [kUp, if_pos (h3 k (Nat.le_refl _) h)]
      exact ih (k + 1) k' h (by omega) (fun j a b => h3 j (by omega) b) h4
    · obtain rfl : k = k' := by omega
      simp only [kUp, if_neg h4]
/-- The torque between two bends. -/
def plB (x' y' x y t : Int) : Int := y' + near ((y - y') * (t - x')) (x - x')
def kAt (zs : List (Int × Int)) (t : Int) : Nat := kUp zs t zs.length 1
/-- The torque at a position. -/
def pl (zs : List (Int × Int)) (t : Int) : Int :=
  plB (zs.getD (kAt zs t - 1) (0, 0)).1 (zs.getD (kAt zs t - 1) (0, 0)).2 (zs.getD (kAt zs t) (0, 0)).1 (zs.getD (kAt zs t) (0, 0)).2 t
theorem near_add (n c d : Int) (hd : 1 ≤ d) : near (c * d + n) d = c + near n d := by
  unfold near
  rw [show 2 * (c * d + n) + d = (2 * n + d) + c * (2 * d) by grind, Int.add_mul_ediv_right _ _ (by omega)]
  omega
theorem plB_eq {x' y' x y t : Int} (h : x' < x) : near (y' * (x - t) + y * (t - x')) (x - x') = plB x' y' x y t := by
  rw [plB, ← near_add _ _ _ (by omega)]
  congr 1
  grind
theorem near_in {n d Y : Int} (hd : 1 ≤ d) (h0 : 0 ≤ n) (h1 : n ≤ Y * d) : 0 ≤ near n d ∧ near n d ≤ Y := by
  unfold near
  refine ⟨Int.ediv_nonneg (by omega) (by omega), ?_⟩
  have h2 : 2 * n + d ≤ 2 * (Y * d) + d := by omega
  have h3 : (2 * n + d) / (2 * d) < Y + 1 := by
    apply Int.ediv_lt_of_lt_mul (by omega)
    have : (Y + 1) * (2 * d) = 2 * (Y * d) + 2 * d := by grind
    omega
  omega
structure Bds (x' y' x y t : Int) : Prop where
  a : 0 ≤ x' ∧ x' ≤ 2000
  b : 0 ≤ y' ∧ y' ≤ 1000000
  c : 0 ≤ x ∧ x ≤ 2000
  d : 0 ≤ y ∧ y ≤ 1000000
  lt : x' < x
  le : y' ≤ y
  t : x' ≤ t ∧ t ≤ x
theorem Bds.pl {x' y' x y t : Int} (h : Bds x' y' x y t) : 0 ≤ plB x' y' x y t ∧ plB x' y' x y t ≤ 1000000 := by
  rw [← plB_eq h.lt]
  have h1 := h.a; have h2 := h.b; have h3 := h.c; have h4 := h.d; have h5 := h.lt; have h6 := h.t
  have m1 : y' * (x - t) ≤ 1000000 * (x - t) := Int.mul_le_mul_of_nonneg_right h2.2 (by omega)
  have m2 : y * (t - x') ≤ 1000000 * (t - x') := Int.mul_le_mul_of_nonneg_right h4.2 (by omega)
  have m3 := Int.mul_nonneg h2.1 (show 0 ≤ x - t by omega)
  have m4 := Int.mul_nonneg h4.1 (show 0 ≤ t - x' by omega)
  exact near_in (by omega) (by omega) (by omega)

theorem vSpr_at {zs : List (Int × Int)} (h : vSpr zs = true) {i : Nat} (hi : i < zs.length) : (0 ≤ (zs.getD i (0, 0)).1 ∧ (zs.getD i (0, 0)).1 ≤ 2000) ∧ (0 ≤ (zs.getD i (0, 0)).2 ∧ (zs.getD i (0, 0)).2 ≤ 1000000) := by
  rw [vSpr, Bool.and_eq_true, List.all_eq_true] at h
  have := h.1 i (List.mem_range.2 hi)
  rw [bendOk, Bool.and_eq_true, Bool.and_eq_true] at this
  exact ⟨inB_iff.1 this.1.1, inB_iff.1 this.1.2⟩
theorem vSpr_up {zs : List (Int × Int)} (h : vSpr zs = true) {i : Nat} (hi : i + 1 < zs.length) : (zs.getD i (0, 0)).1 < (zs.getD (i + 1) (0, 0)).1 ∧ (zs.getD i (0, 0)).2 ≤ (zs.getD (i + 1) (0, 0)).2 := by
  rw [vSpr, Bool.and_eq_true, List.all_eq_true] at h
  have := h.1 (i + 1) (List.mem_range.2 hi)
  rw [bendOk, Bool.and_eq_true, Bool.and_eq_true, Bool.or_eq_true, Bool.and_eq_true] at this
  rcases this.2 with h2 | h2
  · simp at h2
  · exact ⟨by simpa using h2.1, by simpa using h2.2⟩
theorem vSpr_n {zs : List (Int × Int)} (h : vSpr zs = true) : 2 ≤ zs.length ∧ zs.length ≤ 20 := by
  rw [vSpr, Bool.and_eq_true, Bool.and_eq_true] at h
  exact ⟨of_decide_eq_true h.2.1, of_decide_eq_true h.2.2⟩
/-- Is t a position of the spring? -/
def fst1 (zs : List (Int × Int)) : Int := (zs.getD 0 (0, 0)).1
def lst1 (zs : List (Int × Int)) : Int := (zs.getD (zs.length - 1) (0, 0)).1
def posn (zs : List (Int × Int)) (t : Int) : Bool := inB t (fst1 zs) (lst1 zs)
theorem kAt_eq {zs : List (Int × Int)} {t : Int} {k : Nat} (h1 : 1 ≤ k) (hk : k < zs.length) (h : ∀ j, 1 ≤ j → j < k → (zs.getD j (0, 0)).1 < t) (h2 : ¬ (zs.getD k (0, 0)).1 < t) : kAt zs t = k :=
  kUp_eq _ _ _ h1 (by omega) h h2
theorem bds_at {zs : List (Int × Int)} {t : Int} {p : Nat} (hv : vSpr zs = true) (ht : posn zs t = true) (hk : p + 1 < zs.length) (h : ∀ j, 1 ≤ j → j < p + 1 → (zs.getD j (0, 0)).1 < t) (h2 : ¬ (zs.getD (p + 1) (0, 0)).1 < t) :
    Bds (zs.getD p (0, 0)).1 (zs.getD p (0, 0)).2 (zs.getD (p + 1) (0, 0)).1 (zs.getD (p + 1) (0, 0)).2 t := by
  have a := vSpr_at hv (i := p) (by omega)
  have b := vSpr_at hv (i := p + 1) (by omega)
  have c := vSpr_up hv hk
  have d := inB_iff.1 ht
  refine ⟨a.1, a.2, b.1, b.2, c.1, c.2, ?_, by omega⟩
  by_cases hp : p = 0
  · subst hp; exact d.1
  · have := h p (by omega) (by omega); omega
/-- Where the search for t's bend ends. -/
theorem kAt_spec {zs : List (Int × Int)} {t : Int} (hv : vSpr zs = true) (ht : posn zs t = true) : ∃ p, p + 1 < zs.length ∧ kAt zs t = p + 1 ∧ (∀ j, 1 ≤ j → j < p + 1 → (zs.getD j (0, 0)).1 < t) ∧ ¬ (zs.getD (p + 1) (0, 0)).1 < t := by
  have hn := vSpr_n hv
  have hl : ¬ lst1 zs < t := by have := (inB_iff.1 ht).2; omega
  have key : ∀ m, (∃ p, p + 1 < zs.length ∧ (∀ j, 1 ≤ j → j < p + 1 → (zs.getD j (0, 0)).1 < t) ∧ ¬ (zs.getD (p + 1) (0, 0)).1 < t) ∨ (∀ j, 1 ≤ j → j < m + 1 → j < zs.length → (zs.getD j (0, 0)).1 < t) := by
    intro m
    induction m with
    | zero => right; intro j a b; omega
    | succ m ih =>
      rcases ih with h | h
      · exact .inl h
      · by_cases hm : m + 1 < zs.length
        · by_cases hx : (zs.getD (m + 1) (0, 0)).1 < t
          · right
            intro j a b c
            by_cases hj : j = m + 1
            · rw [hj]; exact hx
            · exact h j a (by omega) c
          · exact .inl ⟨m, hm, fun j a b => h j a b (by omega), hx⟩
        · right
          intro j a b c
          exact h j a (by omega) c
  rcases key zs.length with ⟨p, h1, h2, h3⟩ | h
  · exact ⟨p, h1, kAt_eq (by omega) h1 h2 h3, h2, h3⟩
  · exact absurd (h (zs.length - 1) (by omega) (by omega) (by omega)) hl
theorem pl_bd {zs : List (Int × Int)} {t : Int} (hv : vSpr zs = true) (ht : posn zs t = true) : 0 ≤ pl zs t ∧ pl zs t ≤ 1000000 := by
  obtain ⟨p, h1, h2, h3, h4⟩ := kAt_spec hv ht
  rw [pl, h2]
  exact (bds_at hv ht h1 h3 h4).pl
theorem pl_at {zs : List (Int × Int)} {t x' y' x y : Int} {p : Nat} (hk : p + 1 < zs.length) (h : ∀ j, 1 ≤ j → j < p + 1 → (zs.getD j (0, 0)).1 < t) (h2 : ¬ (zs.getD (p + 1) (0, 0)).1 < t)
    (e1 : (zs.getD p (0, 0)).1 = x') (e2 : (zs.getD p (0, 0)).2 = y') (e3 : (zs.getD (p + 1) (0, 0)).1 = x) (e4 : (zs.getD (p + 1) (0, 0)).2 = y) : pl zs t = plB x' y' x y t := by
  rw [pl, kAt_eq (by omega) hk h h2, ← e1, ← e2, ← e3, ← e4]
  rfl
end Go.Proofs.Ytgkpganbepbjnaa
