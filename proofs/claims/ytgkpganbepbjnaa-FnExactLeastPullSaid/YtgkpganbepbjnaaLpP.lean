/-
  The least torque of the first arbor: the plain words.
-/
import Derived.Test.YtgkpganbepbjnaaAlP
import Derived.Test.YtgkpganbepbjnaaLeastN
namespace Go.Proofs.Ytgkpganbepbjnaa
set_option linter.unusedVariables false

def lpP (zs : List (Int × Int)) (u need : Int) (t : Nat) : Bool := decide (need ≤ paS zs u t zs.length)
theorem lpP_mono {zs : List (Int × Int)} {u need : Int} (hv : vTrain zs = true) (hu : 0 ≤ u ∧ u ≤ 1000) {a b : Nat} (h : a ≤ b) (hp : lpP zs u need a = true) : lpP zs u need b = true := by
  have h1 := paS_mono (q := a) (q' := b) hv hu (by omega) zs.length (Nat.le_refl _)
  simp only [lpP, decide_eq_true_eq] at hp ⊢
  omega
def lpCd (zs : List (Int × Int)) (need u : Int) : Int := if vTrain zs = true then (if (inB need 0 1000000 && inB u 0 1000) = true then 0 else 2) else 1
def lpQ (zs : List (Int × Int)) (need u : Int) : Nat := leastN (lpP zs u need) 1000001
def lpR (zs : List (Int × Int)) (need u : Int) : Int := if lpCd zs need u = 0 then (if lpQ zs need u ≤ 1000000 then lpQ zs need u else 0) else 0
def lpC (zs : List (Int × Int)) (need u : Int) : Int := if lpCd zs need u = 0 then (if lpQ zs need u ≤ 1000000 then 0 else 3) else lpCd zs need u
theorem lpP_at {zs : List (Int × Int)} {u need : Int} {t : Nat} {y : Int} (hy : (t : Int) = y) (v : Bool) (h : lpP zs u need t = v) : decide (need ≤ paS zs u y zs.length) = v := by
  subst hy
  exact h
end Go.Proofs.Ytgkpganbepbjnaa
