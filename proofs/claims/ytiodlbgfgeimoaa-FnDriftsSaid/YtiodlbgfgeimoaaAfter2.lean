/-
  The drifts after the segments: the program's.
-/
import Derived.Test.YtiodlbgfgeimoaaMark
import Derived.Test.YtiodlbgfgeimoaaNear
import Derived.Test.YtiodlbgfgeimoaaWorst
namespace Go.Proofs.Ytiodlbgfgeimoaa
open Go.RowKit
set_option linter.unusedSimpArgs false
set_option linter.unusedVariables false

def drL (b l c m : Int) (zs : List (Int × Int)) (n : Nat) : List Int := (sums b l c m zs n).map (fun x => near x 24)
def drR (b l c m : Int) (zs : List (Int × Int)) : List Int := if vRate b l c m = true then (if vSegs zs = true then drL b l c m zs zs.length else []) else []
def drC (b l c m : Int) (zs : List (Int × Int)) : Int := if vRate b l c m = true then (if vSegs zs = true then 0 else 1) else 1

/-- The loop of the program's: row g holds the sums; at its end, the drifts. -/
theorem rows_same {L ys : List Int} {n : Nat} (h1 : L.length = n) (h2 : ys.length = n) (h : ∀ j, j < n → ys.getD j 0 = near (L.getD j 0) 24) : ys = L.map (fun x => near x 24) := by
  apply List.ext_getElem
  · simp [h1, h2]
  · intro i hi1 hi2
    have := h i (by omega)
    rw [List.getD_eq_getElem?_getD, List.getD_eq_getElem?_getD, List.getElem?_eq_getElem hi1, List.getElem?_eq_getElem (by omega)] at this
    simpa using this
end Go.Proofs.Ytiodlbgfgeimoaa
