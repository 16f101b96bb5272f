/-
  The walk of the law on valid angles.
-/
import Derived.Test.YtbhhiodbhlhpmaaAngle
namespace Go.Proofs.Ytbhhiodbhlhpmaa
open Go.RowKit
set_option linter.unusedSimpArgs false
set_option linter.unusedVariables false

set_option maxHeartbeats 400000 in
theorem validAngle_walk (s c h : Int) (w : World) (b0 : -9223372036854775808 ≤ s ∧ s ≤ 9223372036854775807) (b1 : -9223372036854775808 ≤ c ∧ c ≤ 9223372036854775807) (b2 : -9223372036854775808 ≤ h ∧ h ≤ 9223372036854775807) :
    Calls Try.prog 3 #[.agg #[.int .i64 s, .int .i64 c, .int .i64 h]] w fun e w' => e = .returned (.bool true) ∧ Ext w w' := by
  clear b0 b1 b2
  go_enter Try.func3, Try.ntmps3
  go_wp2_with fail
  have x0 := Ext.refl (w.alloc (Obj.cells #[.int .i64 s, .int .i64 c, .int .i64 h] 23))
  go_wp2_with (first | (go_at_call 19; refine (toAngle_any s c h _).mono ?_; rintro e w1 ⟨rfl, x1⟩; (try clear k kf ks); (first | replace x0 := x0.trans x1 | replace x0 := (x0.alloc _).trans x1 | replace x0 := (x0.drew).trans x1 | replace x0 := ((x0.alloc _).alloc _).trans x1); clear x1; obtain ⟨k, kf, ks⟩ := x0.cells) | (go_at_call 18; refine (specValidAngle_any s c h _).mono ?_; rintro e w1 ⟨rfl, x1⟩; (try clear k kf ks); (first | replace x0 := x0.trans x1 | replace x0 := (x0.alloc _).trans x1 | replace x0 := (x0.drew).trans x1 | replace x0 := ((x0.alloc _).alloc _).trans x1); clear x1; obtain ⟨k, kf, ks⟩ := x0.cells) | (go_at_call 20; refine (implValidAngle_any s c h _).mono ?_; rintro e w1 ⟨rfl, x1⟩; (try clear k kf ks); (first | replace x0 := x0.trans x1 | replace x0 := (x0.alloc _).trans x1 | replace x0 := (x0.drew).trans x1 | replace x0 := ((x0.alloc _).alloc _).trans x1); clear x1; obtain ⟨k, kf, ks⟩ := x0.cells))
  go_ret
  exact ⟨rfl, ((Ext.refl _).alloc _).trans x0⟩

end Go.Proofs.Ytbhhiodbhlhpmaa
