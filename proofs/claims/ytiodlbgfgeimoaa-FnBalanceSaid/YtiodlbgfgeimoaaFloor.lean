/-
  The floor of a valid ratio.
-/
import Derived.Test.YtiodlbgfgeimoaaRatio
import Derived.Deep.DeepCutAuto
namespace Go.Proofs.Ytiodlbgfgeimoaa
open Go.RowKit
set_option linter.unusedSimpArgs false
set_option linter.unusedVariables false

set_option maxHeartbeats 400000 in
theorem floorRatio_any (n d : Int) (w : World) (h : vRat n d = true) : Calls Try.prog 52 #[.agg #[.int .i64 n, .int .i64 d]] w fun e w' => e = .returned (.int .i64 (n / d)) ∧ Ext w w' := by
  have hb : (1 ≤ d ∧ d ≤ 1000000000) ∧ (-1000000000 ≤ n ∧ n ≤ 1000000000) := by simp [vRat] at h; exact ⟨inB_iff.1 h.1.1, inB_iff.1 h.1.2⟩
  have H := Lib.hid h
  clear h
  go_enter Try.func52, Try.ntmps52
  go_upto_region 1 with fail
  have x0 := Ext.refl (w.alloc (Obj.cells #[.int .i64 n, .int .i64 d] 39))
  go_wp2_with (first | (go_at_call 86; refine (implValidRatio_any n d _).mono ?_; rintro e w1 ⟨rfl, x1⟩; rw [H.out]; replace x0 := x0.trans x1; clear x1; obtain ⟨xc, xf, xs⟩ := x0.cells) | (go_at_call 84; refine (floorDiv_any _ _ _ (by omega) (by omega)).mono ?_; rintro e w3 ⟨rfl, rfl⟩))
  go_ret
  exact ⟨rfl, ((Ext.refl _).alloc _).trans x0⟩
end Go.Proofs.Ytiodlbgfgeimoaa
