/-
  Contracts of the bounds of pi, and the walk of their law.
-/
import Derived.Test.YtbhhiodbhlhpmaaNum
namespace Go.Proofs.Ytbhhiodbhlhpmaa
open Go.RowKit
set_option linter.unusedSimpArgs false
set_option linter.unusedVariables false

def piLo (n : Int) : Int := if inB n 0 1000000000 = false then 0 else n * 103993 / 33102
def piHi (n : Int) : Int := if inB n 0 1000000000 = false then 0 else -(-(n * 104348) / 33215)
def piC (n : Int) : Int := if inB n 0 1000000000 = false then 2 else 0

set_option maxHeartbeats 400000 in
theorem l10Pi_any (n : Int) (w : World) (hn : 0 ≤ n ∧ n ≤ 1000000000) : Calls Try.prog 53 #[.int .i64 n] w fun e w' => e = .returned (.tuple #[.int .i64 (n * 103993 / 33102), .int .i64 (-(-(n * 104348) / 33215))]) ∧ w = w' := by
  go_enter Try.func53, Try.ntmps53
  go_wp2_with (go_at_call 65; refine (l02Down_any _ _ _ (by omega) (by omega)).mono ?_; rintro e w1 ⟨rfl, rfl⟩)
  go_ret2
  exact ⟨ret2 rfl (by omega), rfl⟩

set_option maxHeartbeats 400000 in
theorem implPiBounds_any (n : Int) (w : World) : Calls Try.prog 22 #[.int .i64 n] w fun e w' => e = .returned (.tuple #[.int .i64 (piLo n), .int .i64 (piHi n), .int .i64 (piC n)]) ∧ w = w' := by
  cases h1 : inB n 0 1000000000
  · have e1 := Lib.hid (show 0 = piLo n by simp [piLo, h1])
    have e2 := Lib.hid (show 0 = piHi n by simp [piHi, h1])
    have e3 := Lib.hid (show 2 = piC n by simp [piC, h1])
    go_enter Try.func22, Try.ntmps22
    go_wp2_with (go_at_call 51; refine (within_any _ _ _ _).mono ?_; rintro e w1 ⟨rfl, rfl⟩)
    go_ret3
    exact ⟨ret3 e1.out e2.out e3.out, rfl⟩
  · have e1 := Lib.hid (show n * 103993 / 33102 = piLo n by simp [piLo, h1])
    have e2 := Lib.hid (show -(-(n * 104348) / 33215) = piHi n by simp [piHi, h1])
    have e3 := Lib.hid (show 0 = piC n by simp [piC, h1])
    have hb := inB_iff.1 h1
    go_enter Try.func22, Try.ntmps22
    go_wp2_with (first | (go_at_call 51; refine (within_any _ _ _ _).mono ?_; rintro e w1 ⟨rfl, rfl⟩) | (go_at_call 54; refine (floorDiv_any _ _ _ (by omega) (by omega)).mono ?_; rintro e w1 ⟨rfl, rfl⟩) | (go_at_call 55; refine (ceilDiv_any _ _ _ (by omega) (by omega)).mono ?_; rintro e w1 ⟨rfl, rfl⟩))
    go_ret3
    exact ⟨ret3 e1.out e2.out e3.out, rfl⟩

set_option maxHeartbeats 400000 in
theorem specPiBounds_any (n : Int) (w : World) : Calls Try.prog 21 #[.int .i64 n] w fun e w' => e = .returned (.tuple #[.int .i64 (piLo n), .int .i64 (piHi n), .int .i64 (piC n)]) ∧ w = w' := by
  cases h1 : inB n 0 1000000000
  · have e1 := Lib.hid (show 0 = piLo n by simp [piLo, h1])
    have e2 := Lib.hid (show 0 = piHi n by simp [piHi, h1])
    have e3 := Lib.hid (show 2 = piC n by simp [piC, h1])
    go_enter Try.func21, Try.ntmps21
    go_wp2_with (go_at_call 52; refine (l00In_any _ _ _ _).mono ?_; rintro e w1 ⟨rfl, rfl⟩)
    go_ret3
    exact ⟨ret3 e1.out e2.out e3.out, rfl⟩
  · have e1 := Lib.hid (show n * 103993 / 33102 = piLo n by simp [piLo, h1])
    have e2 := Lib.hid (show -(-(n * 104348) / 33215) = piHi n by simp [piHi, h1])
    have e3 := Lib.hid (show 0 = piC n by simp [piC, h1])
    have hb := inB_iff.1 h1
    go_enter Try.func21, Try.ntmps21
    go_wp2_with (first | (go_at_call 52; refine (l00In_any _ _ _ _).mono ?_; rintro e w1 ⟨rfl, rfl⟩) | (go_at_call 53; refine (l10Pi_any _ _ (by omega)).mono ?_; rintro e w1 ⟨rfl, rfl⟩))
    go_ret3
    exact ⟨ret3 e1.out e2.out e3.out, rfl⟩

set_option maxHeartbeats 400000 in
theorem piBounds_walk (n : Int) (w : World) (b0 : -9223372036854775808 ≤ n ∧ n ≤ 9223372036854775807) :
    Calls Try.prog 4 #[.int .i64 n] w fun e w' => e = .returned (.bool true) ∧ Ext w w' := by
  clear b0
  go_enter Try.func4, Try.ntmps4
  go_wp2_with (first | (go_at_call 21; refine (specPiBounds_any n _).mono ?_; rintro e w1 ⟨rfl, rfl⟩) | (go_at_call 22; refine (implPiBounds_any n _).mono ?_; rintro e w1 ⟨rfl, rfl⟩))
  go_ret
  exact ⟨rfl, Ext.refl _⟩

end Go.Proofs.Ytbhhiodbhlhpmaa
