/-
  What the law FnMergedSegments draws from a code.
-/
import Derived.Test.YtiodlbgfgeimoaaList
namespace Go.Proofs.Ytiodlbgfgeimoaa
open Go.RowKit
set_option linter.unusedSimpArgs false
set_option linter.unusedVariables false

theorem PairsOf.slice {w : World} {B : Nat} {v : Value} {zs : List (Int × Int)} (h : PairsOf w B v zs) : ∃ a L c, v = .slice a L c ∧ zs.length = L ∧ RowAt w a zs := by
  obtain ⟨a, c, rfl⟩ := h.shape
  exact ⟨a, _, c, rfl, rfl, h.row⟩
set_option maxRecDepth 100000 in
set_option maxHeartbeats 1000000 in
theorem drawMerge_any (a : Option Addr) (n cp : Nat) (w : World) (hB0 : RowB w w.heap.size a n) (hn : n ≤ 1048576) :
    Calls Try.prog 53 #[.slice a n cp] w fun e w' => (∃ sa L sc zs, e = .returned (.slice sa L sc) ∧ zs.length = L ∧ L ≤ 100 ∧ RowAt w' sa zs) ∧ Ext w w' := by
  go_enter Try.func53, Try.ntmps53
  go_wp2_with (first | (go_at_call 88; refine (l00From_any a n cp _).mono ?_; rintro e w1 ⟨rfl, hS, x1⟩; have hB := hB0.to (g' := w.heap.size) x1 (Nat.le_refl _)) | (go_at_call 87; refine (drawSegs_any w.heap.size n cp 0 a _ hS hB (by omega) hn).mono ?_; rintro e w2 ⟨⟨v, zs, rfl, hP, hl⟩, hS2, hWc⟩))
  obtain ⟨sa, L, sc, rfl, hL, hr⟩ := hP.slice
  go_ret
  exact ⟨⟨sa, L, sc, zs, rfl, hL, by omega, hr⟩, Wrote.ext x1 hWc (fun k hk => by injection hk; omega)⟩
end Go.Proofs.Ytiodlbgfgeimoaa
