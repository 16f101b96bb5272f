/-
  Springs: energy, running time and the best stopwork: the plain words.
-/
import Derived.Test.YtgkpganbepbjnaaPullP
namespace Go.Proofs.Ytgkpganbepbjnaa
set_option linter.unusedVariables false

def ptR (zs : List (Int × Int)) (t : Int) : Int := if vSpr zs = true then (if posn zs t = true then pl zs t else 0) else 0
def ptC (zs : List (Int × Int)) (t : Int) : Int := if vSpr zs = true then (if posn zs t = true then 0 else 2) else 1

def ebS (zs : List (Int × Int)) (f : Int) : Nat → Int
  | 0 => 0
  | d + 1 => ebS zs f d + (pl zs (f + d) + pl zs (f + d + 1))
def ebCd (zs : List (Int × Int)) (f t : Int) : Int := if vSpr zs = true then (if (posn zs f && posn zs t && decide (f ≤ t)) = true then 0 else 2) else 1
def ebR (zs : List (Int × Int)) (f t : Int) : Int := if ebCd zs f t = 0 then ebS zs f (t - f).toNat else 0
theorem posn_mid {zs : List (Int × Int)} {f t x : Int} (hf : posn zs f = true) (ht : posn zs t = true) (h1 : f ≤ x) (h2 : x ≤ t) : posn zs x = true := by
  have := inB_iff.1 hf
  have := inB_iff.1 ht
  exact inB_iff.2 (by omega)
theorem ends_bd {zs : List (Int × Int)} (hv : vSpr zs = true) : (0 ≤ fst1 zs ∧ fst1 zs ≤ 2000) ∧ (0 ≤ lst1 zs ∧ lst1 zs ≤ 2000) := by
  have hn := vSpr_n hv
  exact ⟨(vSpr_at hv (i := 0) (by omega)).1, (vSpr_at hv (i := zs.length - 1) (by omega)).1⟩
theorem posn_bd {zs : List (Int × Int)} {t : Int} (hv : vSpr zs = true) (ht : posn zs t = true) : 0 ≤ t ∧ t ≤ 2000 := by
  have := ends_bd hv
  have := inB_iff.1 ht
  omega
theorem ebS_bd {zs : List (Int × Int)} {f t : Int} (hv : vSpr zs = true) (hf : posn zs f = true) (ht : posn zs t = true) (d : Nat) (hd : f + d ≤ t) : 0 ≤ ebS zs f d ∧ ebS zs f d ≤ 2000000 * (d : Int) := by
  induction d with
  | zero => simp [ebS]
  | succ d ih =>
    have h1 := ih (by omega)
    have h2 := pl_bd hv (posn_mid hf ht (x := f + d) (by omega) (by omega))
    have h3 := pl_bd hv (posn_mid hf ht (x := f + d + 1) (by omega) (by omega))
    simp only [ebS]
    omega

def rtN (zs : List (Int × Int)) (need : Int) : Nat → Int → Int
  | 0, _ => 0
  | c + 1, x => if (posn zs (x - 1) && decide (need ≤ pl zs (x - 1))) = true then 1 + rtN zs need c (x - 1) else 0
def rnCd (zs : List (Int × Int)) (f need : Int) : Int := if vSpr zs = true then (if (posn zs f && inB need 0 1000000) = true then (if pl zs f < need then 3 else 0) else 2) else 1
def rnR (zs : List (Int × Int)) (f need : Int) : Int := if rnCd zs f need = 0 then rtN zs need (f - fst1 zs).toNat f else 0
theorem rtN_stop {zs : List (Int × Int)} {need x : Int} (c : Nat) (h : (posn zs (x - 1) && decide (need ≤ pl zs (x - 1))) = false) : rtN zs need c x = 0 := by
  cases c with
  | zero => rfl
  | succ c => simp only [rtN, h, Bool.false_eq_true, if_false]
theorem rtN_go {zs : List (Int × Int)} {need x : Int} (c : Nat) (h : posn zs (x - 1) = true) (h2 : need ≤ pl zs (x - 1)) : rtN zs need (c + 1) x = 1 + rtN zs need c (x - 1) := by
  simp only [rtN, h, Bool.true_and, decide_eq_true h2, if_true]

theorem near_mono {n n' d : Int} (hd : 1 ≤ d) (h : n ≤ n') : near n d ≤ near n' d := by
  unfold near
  exact Int.ediv_le_ediv (by omega) (by omega)
theorem near_zero {d : Int} (hd : 1 ≤ d) : near 0 d = 0 := by
  unfold near
  rw [Int.ediv_eq_iff_of_pos (by omega)]
  omega
theorem near_self {c d : Int} (hd : 1 ≤ d) : near (c * d) d = c := by
  have := near_add 0 c d hd
  rw [near_zero hd, Int.add_zero] at this
  simpa using this
theorem Bds.ge {x' y' x y t : Int} (h : Bds x' y' x y t) : y' ≤ plB x' y' x y t := by
  have h1 := h.lt; have h2 := h.le; have h3 := h.t
  have := near_mono (d := x - x') (by omega) (Int.mul_nonneg (show 0 ≤ y - y' by omega) (show 0 ≤ t - x' by omega))
  rw [near_zero (by omega)] at this
  unfold plB
  omega
theorem Bds.up {x' y' x y t t' : Int} (h : Bds x' y' x y t) (h' : Bds x' y' x y t') (ht : t ≤ t') : plB x' y' x y t ≤ plB x' y' x y t' := by
  have h1 := h.lt; have h2 := h.le
  have := near_mono (d := x - x') (by omega) (Int.mul_le_mul_of_nonneg_left (show t - x' ≤ t' - x' by omega) (show 0 ≤ y - y' by omega))
  unfold plB
  omega
theorem Bds.le_y {x' y' x y t : Int} (h : Bds x' y' x y t) : plB x' y' x y t ≤ y := by
  have h1 := h.lt; have h2 := h.le; have h3 := h.t
  have := near_mono (d := x - x') (by omega) (Int.mul_le_mul_of_nonneg_left (show t - x' ≤ x - x' by omega) (show 0 ≤ y - y' by omega))
  rw [near_self (by omega)] at this
  unfold plB
  omega
theorem pulls_up {zs : List (Int × Int)} (hv : vSpr zs = true) (i d : Nat) (hd : i + d < zs.length) : (zs.getD i (0, 0)).2 ≤ (zs.getD (i + d) (0, 0)).2 := by
  induction d with
  | zero => exact Int.le_refl _
  | succ d ih =>
    have := vSpr_up hv (i := i + d) (by omega)
    have := ih (by omega)
    rw [show i + (d + 1) = i + d + 1 by omega]
    omega
/-- The torque never falls with the position. -/
theorem pl_mono {zs : List (Int × Int)} {t t' : Int} (hv : vSpr zs = true) (ht : posn zs t = true) (ht' : posn zs t' = true) (h : t ≤ t') : pl zs t ≤ pl zs t' := by
  obtain ⟨p, a1, a2, a3, a4⟩ := kAt_spec hv ht
  obtain ⟨p', b1, b2, b3, b4⟩ := kAt_spec hv ht'
  have A := bds_at hv ht a1 a3 a4
  have B := bds_at hv ht' b1 b3 b4
  rw [pl, a2, pl, b2]
  have hpp : p ≤ p' := by
    by_cases h1 : p ≤ p'
    · exact h1
    · have := a3 (p' + 1) (by omega) (by omega)
      omega
  rcases Nat.lt_or_ge p p' with h1 | h1
  · have h2 := A.le_y
    have h3 := B.ge
    obtain ⟨d, rfl⟩ : ∃ d, p' = p + 1 + d := ⟨p' - (p + 1), by omega⟩
    have h4 := pulls_up hv (p + 1) d (by omega)
    simp only [Nat.add_sub_cancel] at *
    omega
  · obtain rfl : p = p' := by omega
    exact A.up B h

/-- How much more torque there is a width on. -/
def dW (zs : List (Int × Int)) (wd t : Int) : Int := pl zs (t + wd) - pl zs t
def bsP (zs : List (Int × Int)) (wd : Int) : Nat → Int × Int
  | 0 => (fst1 zs, dW zs wd (fst1 zs))
  | j + 1 => if dW zs wd (fst1 zs + (j + 1 : Nat)) < (bsP zs wd j).2 then (fst1 zs + (j + 1 : Nat), dW zs wd (fst1 zs + (j + 1 : Nat))) else bsP zs wd j
def bsCd (zs : List (Int × Int)) (wd : Int) : Int := if vSpr zs = true then (if inB wd 1 (lst1 zs - fst1 zs) = true then 0 else 2) else 1
def bsR (zs : List (Int × Int)) (wd : Int) : Int := if bsCd zs wd = 0 then (bsP zs wd (lst1 zs - fst1 zs - wd).toNat).1 else 0
theorem dW_bd {zs : List (Int × Int)} {wd t : Int} (hv : vSpr zs = true) (hw : 0 ≤ wd) (h : posn zs t = true) (h2 : posn zs (t + wd) = true) : 0 ≤ dW zs wd t ∧ dW zs wd t ≤ 1000000 := by
  have h3 := pl_mono hv h h2 (by omega)
  have h4 := pl_bd hv h
  have h5 := pl_bd hv h2
  unfold dW
  omega
theorem posn_in {zs : List (Int × Int)} {t : Int} (h1 : fst1 zs ≤ t) (h2 : t ≤ lst1 zs) : posn zs t = true := inB_iff.2 ⟨h1, h2⟩
theorem bsP_bd {zs : List (Int × Int)} {wd : Int} (hv : vSpr zs = true) (hw : 1 ≤ wd) (j : Nat) (hj : fst1 zs + j + wd ≤ lst1 zs) : 0 ≤ (bsP zs wd j).2 ∧ (bsP zs wd j).2 ≤ 1000000 := by
  induction j with
  | zero => exact dW_bd hv (by omega) (posn_in (by omega) (by omega)) (posn_in (by omega) (by omega))
  | succ j ih =>
    have := ih (by omega)
    simp only [bsP]
    split
    · exact dW_bd hv (by omega) (posn_in (by omega) (by omega)) (posn_in (by omega) (by omega))
    · exact this
theorem bsP_take {zs : List (Int × Int)} {wd : Int} {j : Nat} (h : dW zs wd (fst1 zs + (j + 1 : Nat)) < (bsP zs wd j).2) : bsP zs wd (j + 1) = (fst1 zs + (j + 1 : Nat), dW zs wd (fst1 zs + (j + 1 : Nat))) := by simp only [bsP, if_pos h]
theorem bsP_keep {zs : List (Int × Int)} {wd : Int} {j : Nat} (h : ¬ dW zs wd (fst1 zs + (j + 1 : Nat)) < (bsP zs wd j).2) : bsP zs wd (j + 1) = bsP zs wd j := by simp only [bsP, if_neg h]
end Go.Proofs.Ytgkpganbepbjnaa
