/-
  Contracts of the valid angle.
-/
import Derived.Test.YtbhhiodbhlhpmaaNum
namespace Go.Proofs.Ytbhhiodbhlhpmaa
open Go.RowKit
set_option linter.unusedSimpArgs false
set_option linter.unusedVariables false

def vAngle (s c h : Int) : Bool := inB s 1 1000 && inB c 1 1000 && inB h 1 1000 && (s * s + c * c == h * h)
theorem sq_le {x : Int} (h : 1 ≤ x ∧ x ≤ 1000) : 0 ≤ x * x ∧ x * x ≤ 1000000 :=
  ⟨Int.mul_nonneg (by omega) (by omega), by have := Int.mul_le_mul (a := x) (b := x) (c := 1000) (d := 1000) h.2 h.2 (by omega) (by omega); omega⟩

set_option maxHeartbeats 400000 in
theorem toAngle_any (s c h : Int) (w : World) :
    Calls Try.prog 19 #[.agg #[.int .i64 s, .int .i64 c, .int .i64 h]] w fun e w' => e = .returned (.agg #[.int .i64 s, .int .i64 c, .int .i64 h]) ∧ Ext w w' := by
  go_enter Try.func19, Try.ntmps19
  go_wp2
  exact bodyPost_ret (v := .agg #[.int .i64 s, .int .i64 c, .int .i64 h]) (by simp [results, Try.results19, go_sem]) rfl ⟨rfl, (((Ext.refl _).alloc _).alloc _).alloc _⟩

set_option maxHeartbeats 1000000 in
theorem implValidAngle_any (s c h : Int) (w : World) :
    Calls Try.prog 20 #[.agg #[.int .i64 s, .int .i64 c, .int .i64 h]] w fun e w' => e = .returned (.bool (vAngle s c h)) ∧ Ext w w' := by
  cases h1 : inB s 1 1000
  · have e : vAngle s c h = false := by simp [vAngle, h1]
    go_enter Try.func20, Try.ntmps20
    go_wp2_with (go_at_call 51; refine (within_any _ _ _ _).mono ?_; rintro e w1 ⟨rfl, rfl⟩)
    go_ret
    exact ⟨by simp [e], (Ext.refl _).alloc _⟩
  · cases h2 : inB c 1 1000
    · have e : vAngle s c h = false := by simp [vAngle, h2]
      go_enter Try.func20, Try.ntmps20
      go_wp2_with (go_at_call 51; refine (within_any _ _ _ _).mono ?_; rintro e w1 ⟨rfl, rfl⟩)
      go_ret
      exact ⟨by simp [e], (Ext.refl _).alloc _⟩
    · cases h3 : inB h 1 1000
      · have e : vAngle s c h = false := by simp [vAngle, h3]
        go_enter Try.func20, Try.ntmps20
        go_wp2_with (go_at_call 51; refine (within_any _ _ _ _).mono ?_; rintro e w1 ⟨rfl, rfl⟩)
        go_ret
        exact ⟨by simp [e], (Ext.refl _).alloc _⟩
      · have b1 := sq_le (inB_iff.1 h1)
        have b2 := sq_le (inB_iff.1 h2)
        have b3 := sq_le (inB_iff.1 h3)
        have e : vAngle s c h = (s * s + c * c == h * h) := by simp [vAngle, h1, h2, h3]
        have H := Lib.hid e
        clear e
        go_enter Try.func20, Try.ntmps20
        go_wp2_with (go_at_call 51; refine (within_any _ _ _ _).mono ?_; rintro e w1 ⟨rfl, rfl⟩)
        go_ret
        exact ⟨ret_bool H.out.symm, (Ext.refl _).alloc _⟩

set_option maxHeartbeats 1000000 in
theorem l10Angle_any (s c h : Int) (w : World) :
    Calls Try.prog 50 #[.agg #[.int .i64 s, .int .i64 c, .int .i64 h]] w fun e w' => e = .returned (.bool (vAngle s c h)) ∧ Ext w w' := by
  cases h1 : inB s 1 1000
  · have e : vAngle s c h = false := by simp [vAngle, h1]
    go_enter Try.func50, Try.ntmps50
    go_wp2_with (go_at_call 52; refine (l00In_any _ _ _ _).mono ?_; rintro e w1 ⟨rfl, rfl⟩)
    go_ret
    exact ⟨by simp [e], (Ext.refl _).alloc _⟩
  · cases h2 : inB c 1 1000
    · have e : vAngle s c h = false := by simp [vAngle, h2]
      go_enter Try.func50, Try.ntmps50
      go_wp2_with (go_at_call 52; refine (l00In_any _ _ _ _).mono ?_; rintro e w1 ⟨rfl, rfl⟩)
      go_ret
      exact ⟨by simp [e], (Ext.refl _).alloc _⟩
    · cases h3 : inB h 1 1000
      · have e : vAngle s c h = false := by simp [vAngle, h3]
        go_enter Try.func50, Try.ntmps50
        go_wp2_with (go_at_call 52; refine (l00In_any _ _ _ _).mono ?_; rintro e w1 ⟨rfl, rfl⟩)
        go_ret
        exact ⟨by simp [e], (Ext.refl _).alloc _⟩
      · have b1 := sq_le (inB_iff.1 h1)
        have b2 := sq_le (inB_iff.1 h2)
        have b3 := sq_le (inB_iff.1 h3)
        have e : vAngle s c h = (s * s + c * c == h * h) := by simp [vAngle, h1, h2, h3]
        have H := Lib.hid e
        clear e
        go_enter Try.func50, Try.ntmps50
        go_wp2_with (go_at_call 52; refine (l00In_any _ _ _ _).mono ?_; rintro e w1 ⟨rfl, rfl⟩)
        go_ret
        exact ⟨ret_bool H.out.symm, (Ext.refl _).alloc _⟩

set_option maxHeartbeats 400000 in
theorem specValidAngle_any (s c h : Int) (w : World) :
    Calls Try.prog 18 #[.agg #[.int .i64 s, .int .i64 c, .int .i64 h]] w fun e w' => e = .returned (.bool (vAngle s c h)) ∧ Ext w w' := by
  go_enter Try.func18, Try.ntmps18
  go_wp2_with (go_at_call 50; refine (l10Angle_any s c h _).mono ?_; rintro e w1 ⟨rfl, hx⟩)
  go_ret
  exact ⟨rfl, ((Ext.refl _).alloc _).trans hx⟩

end Go.Proofs.Ytbhhiodbhlhpmaa
