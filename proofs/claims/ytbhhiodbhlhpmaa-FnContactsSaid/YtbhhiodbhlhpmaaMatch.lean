/-
  Contracts of two profiles that engage.
-/
import Derived.Test.YtbhhiodbhlhpmaaProf
namespace Go.Proofs.Ytbhhiodbhlhpmaa
open Go.RowKit
set_option linter.unusedSimpArgs false
set_option linter.unusedVariables false

def matC (t m a s c h t9 m9 a9 s9 c9 h9 : Int) : Int := if vProf t m a s c h = false then 1 else if vProf t9 m9 a9 s9 c9 h9 = false then 1 else if m = m9 ∧ s = s9 ∧ c = c9 ∧ h = h9 then 0 else 6
theorem matC_ok {t m a s c h t9 m9 a9 s9 c9 h9 : Int} (e : matC t m a s c h t9 m9 a9 s9 c9 h9 = 0) : vProf t m a s c h = true ∧ vProf t9 m9 a9 s9 c9 h9 = true ∧ m = m9 ∧ s = s9 ∧ c = c9 ∧ h = h9 := by
  unfold matC at e
  split at e
  · omega
  · split at e
    · omega
    · split at e
      · rename_i h1 h9 h3
        exact ⟨by simpa using h1, by simpa using h9, h3⟩
      · omega

set_option maxHeartbeats 1000000 in
theorem matching_any (t m a s c h t9 m9 a9 s9 c9 h9 : Int) (w : World) :
    Calls Try.prog 68 #[.agg #[.int .i64 t, .int .i64 m, .int .i64 a, .int .i64 s, .int .i64 c, .int .i64 h], .agg #[.int .i64 t9, .int .i64 m9, .int .i64 a9, .int .i64 s9, .int .i64 c9, .int .i64 h9]] w fun e w' => e = .returned (.int .i64 (matC t m a s c h t9 m9 a9 s9 c9 h9)) ∧ Ext w w' := by
  cases h1 : vProf t m a s c h
  · have e1 := Lib.hid (show 1 = matC t m a s c h t9 m9 a9 s9 c9 h9 by simp [matC, h1])
    go_enter Try.func68, Try.ntmps68
    go_wp2_with (first | (go_at_call 25; refine (implValidProfile_any _ _ _ _ _ _ _).mono ?_; rintro e w1 ⟨rfl, x1⟩; (try clear xc xf xs); (first | replace x0 := x0.trans x1 | replace x0 := (x0.alloc _).trans x1 | replace x0 := (x0.drew).trans x1 | replace x0 := ((x0.alloc _).alloc _).trans x1 | have x0 := x1); clear x1; obtain ⟨xc, xf, xs⟩ := x0.cells))
    go_ret
    exact ⟨ret_int e1.out, (((Ext.refl _).alloc _).alloc _).trans x0⟩
  · cases q2 : vProf t9 m9 a9 s9 c9 h9
    · have e1 := Lib.hid (show 1 = matC t m a s c h t9 m9 a9 s9 c9 h9 by simp [matC, h1, q2])
      go_enter Try.func68, Try.ntmps68
      go_wp2_with (first | (go_at_call 25; refine (implValidProfile_any _ _ _ _ _ _ _).mono ?_; rintro e w1 ⟨rfl, x1⟩; (try clear xc xf xs); (first | replace x0 := x0.trans x1 | replace x0 := (x0.alloc _).trans x1 | replace x0 := (x0.drew).trans x1 | replace x0 := ((x0.alloc _).alloc _).trans x1 | have x0 := x1); clear x1; obtain ⟨xc, xf, xs⟩ := x0.cells))
      go_ret
      exact ⟨ret_int e1.out, (((Ext.refl _).alloc _).alloc _).trans x0⟩
    · by_cases k1 : m = m9
      · by_cases k2 : s = s9
        · by_cases k3 : c = c9
          · by_cases k4 : h = h9
            · have e1 := Lib.hid (show 0 = matC t m a s c h t9 m9 a9 s9 c9 h9 by unfold matC; rw [if_neg (by simp [h1]), if_neg (by simp [q2]), if_pos ⟨k1, k2, k3, k4⟩])
              subst k1; subst k2; subst k3; subst k4
              go_enter Try.func68, Try.ntmps68
              go_wp2_with (first | (go_at_call 25; refine (implValidProfile_any _ _ _ _ _ _ _).mono ?_; rintro e w1 ⟨rfl, x1⟩; (try clear xc xf xs); (first | replace x0 := x0.trans x1 | replace x0 := (x0.alloc _).trans x1 | replace x0 := (x0.drew).trans x1 | replace x0 := ((x0.alloc _).alloc _).trans x1 | have x0 := x1); clear x1; obtain ⟨xc, xf, xs⟩ := x0.cells))
              go_ret
              exact ⟨ret_int e1.out, (((Ext.refl _).alloc _).alloc _).trans x0⟩
            · have f1 : (h == h9) = false := by simpa using k4
              have e1 := Lib.hid (show 6 = matC t m a s c h t9 m9 a9 s9 c9 h9 by simp [matC, h1, q2, k4])
              subst k1; subst k2; subst k3
              go_enter Try.func68, Try.ntmps68
              go_wp2_with (first | (go_at_call 25; refine (implValidProfile_any _ _ _ _ _ _ _).mono ?_; rintro e w1 ⟨rfl, x1⟩; (try clear xc xf xs); (first | replace x0 := x0.trans x1 | replace x0 := (x0.alloc _).trans x1 | replace x0 := (x0.drew).trans x1 | replace x0 := ((x0.alloc _).alloc _).trans x1 | have x0 := x1); clear x1; obtain ⟨xc, xf, xs⟩ := x0.cells))
              go_ret
              exact ⟨ret_int e1.out, (((Ext.refl _).alloc _).alloc _).trans x0⟩
          · have f1 : (c == c9) = false := by simpa using k3
            have e1 := Lib.hid (show 6 = matC t m a s c h t9 m9 a9 s9 c9 h9 by simp [matC, h1, q2, k3])
            subst k1; subst k2
            go_enter Try.func68, Try.ntmps68
            go_wp2_with (first | (go_at_call 25; refine (implValidProfile_any _ _ _ _ _ _ _).mono ?_; rintro e w1 ⟨rfl, x1⟩; (try clear xc xf xs); (first | replace x0 := x0.trans x1 | replace x0 := (x0.alloc _).trans x1 | replace x0 := (x0.drew).trans x1 | replace x0 := ((x0.alloc _).alloc _).trans x1 | have x0 := x1); clear x1; obtain ⟨xc, xf, xs⟩ := x0.cells))
            go_ret
            exact ⟨ret_int e1.out, (((Ext.refl _).alloc _).alloc _).trans x0⟩
        · have f1 : (s == s9) = false := by simpa using k2
          have e1 := Lib.hid (show 6 = matC t m a s c h t9 m9 a9 s9 c9 h9 by simp [matC, h1, q2, k2])
          subst k1
          go_enter Try.func68, Try.ntmps68
          go_wp2_with (first | (go_at_call 25; refine (implValidProfile_any _ _ _ _ _ _ _).mono ?_; rintro e w1 ⟨rfl, x1⟩; (try clear xc xf xs); (first | replace x0 := x0.trans x1 | replace x0 := (x0.alloc _).trans x1 | replace x0 := (x0.drew).trans x1 | replace x0 := ((x0.alloc _).alloc _).trans x1 | have x0 := x1); clear x1; obtain ⟨xc, xf, xs⟩ := x0.cells))
          go_ret
          exact ⟨ret_int e1.out, (((Ext.refl _).alloc _).alloc _).trans x0⟩
      · have f1 : (m == m9) = false := by simpa using k1
        have f2 : (m != m9) = true := by simpa using k1
        have e1 := Lib.hid (show 6 = matC t m a s c h t9 m9 a9 s9 c9 h9 by simp [matC, h1, q2, k1])
        go_enter Try.func68, Try.ntmps68
        go_wp2_with (first | (go_at_call 25; refine (implValidProfile_any _ _ _ _ _ _ _).mono ?_; rintro e w1 ⟨rfl, x1⟩; (try clear xc xf xs); (first | replace x0 := x0.trans x1 | replace x0 := (x0.alloc _).trans x1 | replace x0 := (x0.drew).trans x1 | replace x0 := ((x0.alloc _).alloc _).trans x1 | have x0 := x1); clear x1; obtain ⟨xc, xf, xs⟩ := x0.cells))
        go_ret
        exact ⟨ret_int e1.out, (((Ext.refl _).alloc _).alloc _).trans x0⟩

set_option maxHeartbeats 1000000 in
theorem l10Two_any (t m a s c h t9 m9 a9 s9 c9 h9 : Int) (w : World) :
    Calls Try.prog 66 #[.agg #[.int .i64 t, .int .i64 m, .int .i64 a, .int .i64 s, .int .i64 c, .int .i64 h], .agg #[.int .i64 t9, .int .i64 m9, .int .i64 a9, .int .i64 s9, .int .i64 c9, .int .i64 h9]] w fun e w' => e = .returned (.int .i64 (matC t m a s c h t9 m9 a9 s9 c9 h9)) ∧ Ext w w' := by
  cases h1 : vProf t m a s c h
  · have e1 := Lib.hid (show 1 = matC t m a s c h t9 m9 a9 s9 c9 h9 by simp [matC, h1])
    go_enter Try.func66, Try.ntmps66
    go_wp2_with (first | (go_at_call 56; refine (l10Ok_any _ _ _ _ _ _ _).mono ?_; rintro e w1 ⟨rfl, x1⟩; (try clear xc xf xs); (first | replace x0 := x0.trans x1 | replace x0 := (x0.alloc _).trans x1 | replace x0 := (x0.drew).trans x1 | replace x0 := ((x0.alloc _).alloc _).trans x1 | have x0 := x1); clear x1; obtain ⟨xc, xf, xs⟩ := x0.cells))
    go_ret
    exact ⟨ret_int e1.out, (((Ext.refl _).alloc _).alloc _).trans x0⟩
  · cases q2 : vProf t9 m9 a9 s9 c9 h9
    · have e1 := Lib.hid (show 1 = matC t m a s c h t9 m9 a9 s9 c9 h9 by simp [matC, h1, q2])
      go_enter Try.func66, Try.ntmps66
      go_wp2_with (first | (go_at_call 56; refine (l10Ok_any _ _ _ _ _ _ _).mono ?_; rintro e w1 ⟨rfl, x1⟩; (try clear xc xf xs); (first | replace x0 := x0.trans x1 | replace x0 := (x0.alloc _).trans x1 | replace x0 := (x0.drew).trans x1 | replace x0 := ((x0.alloc _).alloc _).trans x1 | have x0 := x1); clear x1; obtain ⟨xc, xf, xs⟩ := x0.cells))
      go_ret
      exact ⟨ret_int e1.out, (((Ext.refl _).alloc _).alloc _).trans x0⟩
    · by_cases k1 : m = m9
      · by_cases k2 : s = s9
        · by_cases k3 : c = c9
          · by_cases k4 : h = h9
            · have e1 := Lib.hid (show 0 = matC t m a s c h t9 m9 a9 s9 c9 h9 by unfold matC; rw [if_neg (by simp [h1]), if_neg (by simp [q2]), if_pos ⟨k1, k2, k3, k4⟩])
              subst k1; subst k2; subst k3; subst k4
              go_enter Try.func66, Try.ntmps66
              go_wp2_with (first | (go_at_call 56; refine (l10Ok_any _ _ _ _ _ _ _).mono ?_; rintro e w1 ⟨rfl, x1⟩; (try clear xc xf xs); (first | replace x0 := x0.trans x1 | replace x0 := (x0.alloc _).trans x1 | replace x0 := (x0.drew).trans x1 | replace x0 := ((x0.alloc _).alloc _).trans x1 | have x0 := x1); clear x1; obtain ⟨xc, xf, xs⟩ := x0.cells))
              go_ret
              exact ⟨ret_int e1.out, (((Ext.refl _).alloc _).alloc _).trans x0⟩
            · have f1 : (h == h9) = false := by simpa using k4
              have e1 := Lib.hid (show 6 = matC t m a s c h t9 m9 a9 s9 c9 h9 by simp [matC, h1, q2, k4])
              subst k1; subst k2; subst k3
              go_enter Try.func66, Try.ntmps66
              go_wp2_with (first | (go_at_call 56; refine (l10Ok_any _ _ _ _ _ _ _).mono ?_; rintro e w1 ⟨rfl, x1⟩; (try clear xc xf xs); (first | replace x0 := x0.trans x1 | replace x0 := (x0.alloc _).trans x1 | replace x0 := (x0.drew).trans x1 | replace x0 := ((x0.alloc _).alloc _).trans x1 | have x0 := x1); clear x1; obtain ⟨xc, xf, xs⟩ := x0.cells))
              go_ret
              exact ⟨ret_int e1.out, (((Ext.refl _).alloc _).alloc _).trans x0⟩
          · have f1 : (c == c9) = false := by simpa using k3
            have e1 := Lib.hid (show 6 = matC t m a s c h t9 m9 a9 s9 c9 h9 by simp [matC, h1, q2, k3])
            subst k1; subst k2
            go_enter Try.func66, Try.ntmps66
            go_wp2_with (first | (go_at_call 56; refine (l10Ok_any _ _ _ _ _ _ _).mono ?_; rintro e w1 ⟨rfl, x1⟩; (try clear xc xf xs); (first | replace x0 := x0.trans x1 | replace x0 := (x0.alloc _).trans x1 | replace x0 := (x0.drew).trans x1 | replace x0 := ((x0.alloc _).alloc _).trans x1 | have x0 := x1); clear x1; obtain ⟨xc, xf, xs⟩ := x0.cells))
            go_ret
            exact ⟨ret_int e1.out, (((Ext.refl _).alloc _).alloc _).trans x0⟩
        · have f1 : (s == s9) = false := by simpa using k2
          have e1 := Lib.hid (show 6 = matC t m a s c h t9 m9 a9 s9 c9 h9 by simp [matC, h1, q2, k2])
          subst k1
          go_enter Try.func66, Try.ntmps66
          go_wp2_with (first | (go_at_call 56; refine (l10Ok_any _ _ _ _ _ _ _).mono ?_; rintro e w1 ⟨rfl, x1⟩; (try clear xc xf xs); (first | replace x0 := x0.trans x1 | replace x0 := (x0.alloc _).trans x1 | replace x0 := (x0.drew).trans x1 | replace x0 := ((x0.alloc _).alloc _).trans x1 | have x0 := x1); clear x1; obtain ⟨xc, xf, xs⟩ := x0.cells))
          go_ret
          exact ⟨ret_int e1.out, (((Ext.refl _).alloc _).alloc _).trans x0⟩
      · have f1 : (m == m9) = false := by simpa using k1
        have f2 : (m != m9) = true := by simpa using k1
        have e1 := Lib.hid (show 6 = matC t m a s c h t9 m9 a9 s9 c9 h9 by simp [matC, h1, q2, k1])
        go_enter Try.func66, Try.ntmps66
        go_wp2_with (first | (go_at_call 56; refine (l10Ok_any _ _ _ _ _ _ _).mono ?_; rintro e w1 ⟨rfl, x1⟩; (try clear xc xf xs); (first | replace x0 := x0.trans x1 | replace x0 := (x0.alloc _).trans x1 | replace x0 := (x0.drew).trans x1 | replace x0 := ((x0.alloc _).alloc _).trans x1 | have x0 := x1); clear x1; obtain ⟨xc, xf, xs⟩ := x0.cells))
        go_ret
        exact ⟨ret_int e1.out, (((Ext.refl _).alloc _).alloc _).trans x0⟩

end Go.Proofs.Ytbhhiodbhlhpmaa
