/-
  The torque along a train: the plain words.
-/
import Derived.Test.YtgkpganbepbjnaaPair
import Derived.Test.YtgkpganbepbjnaaRow2
namespace Go.Proofs.Ytgkpganbepbjnaa
set_option linter.unusedVariables false

def vTrain (zs : List (Int × Int)) : Bool := zs.all (fun p => vPair p.1 p.2) && decide (zs.length ≤ 5)
theorem vTrain_bad {zs : List (Int × Int)} {n i : Nat} (hn : zs.length = n) (hi : i < n) (h : vPair (zs.getD i (0, 0)).1 (zs.getD i (0, 0)).2 = false) : false = vTrain zs := by
  have : zs.all (fun p => vPair p.1 p.2) = false := by
    rw [List.all_eq_false]
    refine ⟨zs.getD i (0, 0), ?_, by rw [h]; simp⟩
    rw [List.getD_eq_getElem?_getD, List.getElem?_eq_getElem (by omega)]
    exact List.getElem_mem _
  rw [vTrain, this, Bool.false_and]
theorem vTrain_end {zs : List (Int × Int)} {n : Nat} (hn : zs.length = n) (h : ∀ j, j < n → vPair (zs.getD j (0, 0)).1 (zs.getD j (0, 0)).2 = true) : decide ((n : Int) ≤ 5) = vTrain zs := by
  have : zs.all (fun p => vPair p.1 p.2) = true := by
    rw [List.all_eq_true]
    intro x hx
    obtain ⟨j, hj, rfl⟩ := List.getElem_of_mem hx
    have := h j (by omega)
    rwa [List.getD_eq_getElem?_getD, List.getElem?_eq_getElem hj] at this
  rw [vTrain, this, Bool.true_and, hn]
  apply decide_eq_decide.2
  omega
theorem vTrain_at {zs : List (Int × Int)} (h : vTrain zs = true) {i : Nat} (hi : i < zs.length) : (6 ≤ (zs.getD i (0, 0)).1 ∧ (zs.getD i (0, 0)).1 ≤ 240) ∧ (6 ≤ (zs.getD i (0, 0)).2 ∧ (zs.getD i (0, 0)).2 ≤ 240) := by
  rw [vTrain, Bool.and_eq_true, List.all_eq_true] at h
  exact vPair_iff.1 (h.1 _ (by rw [List.getD_eq_getElem?_getD, List.getElem?_eq_getElem hi]; exact List.getElem_mem _))
theorem vTrain_len {zs : List (Int × Int)} (h : vTrain zs = true) : zs.length ≤ 5 := by
  rw [vTrain, Bool.and_eq_true] at h
  exact of_decide_eq_true h.2

/-- The torque behind k stages. -/
def paS (zs : List (Int × Int)) (u q : Int) : Nat → Int
  | 0 => q
  | k + 1 => paS zs u q k * (zs.getD k (0, 0)).2 / (zs.getD k (0, 0)).1 * (1000 - u) / 1000
def paL (zs : List (Int × Int)) (u q : Int) (k : Nat) : List Int := (List.range (k + 1)).map (paS zs u q)
theorem paL_succ (zs : List (Int × Int)) (u q : Int) (k : Nat) : paL zs u q (k + 1) = paL zs u q k ++ [paS zs u q (k + 1)] := by simp [paL, List.range_succ]
theorem paL_length (zs : List (Int × Int)) (u q : Int) (k : Nat) : (paL zs u q k).length = k + 1 := by simp [paL]
theorem stage_bd {p x y u : Int} (hp : 0 ≤ p) (hx : 6 ≤ x ∧ x ≤ 240) (hy : 6 ≤ y ∧ y ≤ 240) (hu : 0 ≤ u ∧ u ≤ 1000) :
    (0 ≤ p * y ∧ p * y ≤ 240 * p) ∧ (0 ≤ p * y / x ∧ p * y / x ≤ 40 * p) ∧ (0 ≤ p * y / x * (1000 - u) ∧ p * y / x * (1000 - u) ≤ 40000 * p) ∧ (0 ≤ p * y / x * (1000 - u) / 1000 ∧ p * y / x * (1000 - u) / 1000 ≤ 40 * p) := by
  have h1 : 0 ≤ p * y := Int.mul_nonneg hp (by omega)
  have h2 : p * y ≤ p * 240 := Int.mul_le_mul_of_nonneg_left hy.2 hp
  have h3 : 0 ≤ p * y / x := Int.ediv_nonneg h1 (by omega)
  have h4 : p * y / x ≤ 40 * p := by
    apply Int.ediv_le_of_le_mul (by omega)
    have : 40 * p * 6 ≤ 40 * p * x := Int.mul_le_mul_of_nonneg_left hx.1 (by omega)
    omega
  have h5 : 0 ≤ p * y / x * (1000 - u) := Int.mul_nonneg h3 (by omega)
  have h6 : p * y / x * (1000 - u) ≤ p * y / x * 1000 := Int.mul_le_mul_of_nonneg_left (by omega) h3
  exact ⟨by omega, by omega, by omega, by omega⟩
theorem paS_bd {zs : List (Int × Int)} {u q : Int} (hv : vTrain zs = true) (hu : 0 ≤ u ∧ u ≤ 1000) (hq : 0 ≤ q ∧ q ≤ 1000000) (k : Nat) (hk : k ≤ zs.length) : 0 ≤ paS zs u q k ∧ paS zs u q k ≤ 1000000 * 40 ^ k := by
  induction k with
  | zero => simp only [paS, Int.pow_zero]; omega
  | succ k ih =>
    have h1 := ih (by omega)
    obtain ⟨hx, hy⟩ := vTrain_at hv (i := k) (by omega)
    have h2 := stage_bd h1.1 hx hy hu
    simp only [paS, Int.pow_succ]
    omega
theorem pow40 {k : Nat} (hk : k ≤ 5) : (40 : Int) ^ k ≤ 102400000 := by
  match k, hk with
  | 0, _ => decide
  | 1, _ => decide
  | 2, _ => decide
  | 3, _ => decide
  | 4, _ => decide
  | 5, _ => decide
theorem paS_lim {zs : List (Int × Int)} {u q : Int} (hv : vTrain zs = true) (hu : 0 ≤ u ∧ u ≤ 1000) (hq : 0 ≤ q ∧ q ≤ 1000000) (k : Nat) (hk : k ≤ zs.length) : 0 ≤ paS zs u q k ∧ paS zs u q k ≤ 102400000000000 := by
  have h1 := paS_bd hv hu hq k hk
  have h2 := pow40 (k := k) (by have := vTrain_len hv; omega)
  omega
theorem paS_mono {zs : List (Int × Int)} {u q q' : Int} (hv : vTrain zs = true) (hu : 0 ≤ u ∧ u ≤ 1000) (h : q ≤ q') (k : Nat) (hk : k ≤ zs.length) : paS zs u q k ≤ paS zs u q' k := by
  induction k with
  | zero => exact h
  | succ k ih =>
    have h1 := ih (by omega)
    obtain ⟨hx, hy⟩ := vTrain_at hv (i := k) (by omega)
    simp only [paS]
    have h2 : paS zs u q k * (zs.getD k (0, 0)).2 ≤ paS zs u q' k * (zs.getD k (0, 0)).2 := Int.mul_le_mul_of_nonneg_right h1 (by omega)
    have h3 := Int.ediv_le_ediv (show 0 < (zs.getD k (0, 0)).1 by omega) h2
    have h4 := Int.mul_le_mul_of_nonneg_right h3 (show 0 ≤ 1000 - u by omega)
    exact Int.ediv_le_ediv (by omega) h4

def paCd (zs : List (Int × Int)) (q u : Int) : Int := if vTrain zs = true then (if (inB q 0 1000000 && inB u 0 1000) = true then 0 else 2) else 1
def paR (zs : List (Int × Int)) (q u : Int) : List Int := if paCd zs q u = 0 then paL zs u q zs.length else []
theorem paR_len (zs : List (Int × Int)) (q u : Int) (n : Nat) (hn : zs.length = n) (hs : n ≤ 1048576) : (paR zs q u).length ≤ 1048576 := by
  unfold paR
  split
  · rename_i h
    rw [paL_length]
    have : vTrain zs = true := by
      unfold paCd at h
      split at h
      · assumption
      · omega
    have := vTrain_len this
    omega
  · simp
end Go.Proofs.Ytgkpganbepbjnaa
