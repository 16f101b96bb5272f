/-
  Two rows of the same integers are equal.
-/
import Derived.Test.YtbhhiodbhlhpmaaInts
namespace Go.Proofs.Ytbhhiodbhlhpmaa
open Go.RowKit
set_option linter.unusedSimpArgs false
set_option linter.unusedVariables false

theorem IntsOf.nth {w : World} {base n cap : Nat} {a : Option Addr} {zs : List Int} (h : IntsOf w base (.slice a n cap) zs) {j : Nat} (hj : j < zs.length) :
    ∃ g x, a = some ⟨g, 0, none⟩ ∧ g < w.heap.size ∧ Hid (zs.getD j 0 = x) ∧ w.cell? ⟨g, j, none⟩ = some (.int .i64 x) := by
  obtain ⟨g1, cap1, x, e, hg, hx, hc⟩ := h.look hj
  injection e with e1 e2 e3
  exact ⟨g1, x, e1, hg, hx, hc⟩
theorem IntsOf.len {w : World} {base n cap : Nat} {a : Option Addr} {zs : List Int} (h : IntsOf w base (.slice a n cap) zs) : zs.length = n := by
  obtain ⟨a1, cap1, e⟩ := h.shape
  injection e with e1 e2 e3
  exact e2.symm

end Go.Proofs.Ytbhhiodbhlhpmaa
