/-
  Rows of segments, beside the source of choices.
-/
import Derived.Test.YtiodlbgfgeimoaaOver
import Derived.Test.YtiodlbgfgeimoaaOwn2
namespace Go.Proofs.Ytiodlbgfgeimoaa
open Go.RowKit
set_option linter.unusedSimpArgs false
set_option linter.unusedVariables false

theorem PairsOf.src {w w' : World} {B g : Nat} {v : Value} {zs : List (Int × Int)} (h : PairsOf w B v zs) (x : Wrote (some g) w w') (hg : g < B) : PairsOf w' B v zs := by
  refine h.wrote x ?_
  cases hv : v.ownBlock with
  | none => exact .inl rfl
  | some k => exact .inr (fun e => by injection e with e; have := (h.lt k hv).1; omega)
theorem PairsOf.apart {w : World} {B g : Nat} {v : Value} {zs : List (Int × Int)} (h : PairsOf w B v zs) (hg : g < B) : some g ≠ v.ownBlock := fun e => by have := (h.lt g e.symm).1; omega
theorem PairsOf.fresh {w : World} {B : Nat} {v : Value} {zs : List (Int × Int)} (h : PairsOf w B v zs) : ∀ k, v.ownBlock = some k → B ≤ k := fun k e => (h.lt k e).1

def sliceN : Value → Nat
  | .slice _ n _ => n
  | _ => 0
theorem sliceN_slice (a : Option Addr) (n c : Nat) : sliceN (.slice a n c) = n := rfl
end Go.Proofs.Ytiodlbgfgeimoaa
