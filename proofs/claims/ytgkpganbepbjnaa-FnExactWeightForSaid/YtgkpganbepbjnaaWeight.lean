/-
  Contracts of the weight for a moment, and the walk of its law.
-/
import Derived.Test.YtgkpganbepbjnaaNum
namespace Go.Proofs.Ytgkpganbepbjnaa
open Go.RowKit
set_option linter.unusedSimpArgs false
set_option linter.unusedVariables false

def wfR (m r : Int) : Int := if inB m 0 1000000000 = false then 0 else if inB r 1 10000 = false then 0 else -(-m / r)
def wfC (m r : Int) : Int := if inB m 0 1000000000 = false then 2 else if inB r 1 10000 = false then 2 else 0
theorem ceil_le {X D z : Int} (hD : 1 ≤ D) : -(-X / D) ≤ z ↔ X ≤ z * D := by
  have h := Int.le_ediv_iff_mul_le (a := -z) (b := -X) (c := D) (by omega)
  rw [Int.neg_mul] at h
  omega
theorem ceil_eq {m r : Int} (hr : 1 ≤ r) : (m + r - 1) / r = -(-m / r) := by
  have h1 : ∀ z : Int, (m + r - 1) / r ≤ z ↔ m ≤ z * r := fun z => by
    have h := Int.ediv_lt_iff_lt_mul (a := m + r - 1) (b := z + 1) (c := r) (by omega)
    rw [Int.add_mul] at h
    omega
  have a := (h1 (-(-m / r))).2 ((ceil_le hr).1 (Int.le_refl _))
  have b := (ceil_le hr).2 ((h1 ((m + r - 1) / r)).1 (Int.le_refl _))
  omega

set_option maxHeartbeats 1000000 in
theorem implWeightFor_any (m r : Int) (w : World) : Calls Try.prog 15 #[.int .i64 m, .int .i64 r] w fun e w' => e = .returned (.tuple #[.int .i64 (wfR m r), .int .i64 (wfC m r)]) ∧ w = w' := by
  cases h1 : inB m 0 1000000000
  · skip
    have e1 := Lib.hid (show 0 = wfR m r by simp [wfR, h1])
    have e2 := Lib.hid (show 2 = wfC m r by simp [wfC, h1])
    go_enter Try.func15, Try.ntmps15
    go_wp2_with (first | (go_at_call 55; refine (within_any _ _ _ _).mono ?_; rintro e w1 ⟨rfl, rfl⟩) | (go_at_call 56; refine (ceilDiv_any _ _ _ (by omega) (by omega)).mono ?_; rintro e w1 ⟨rfl, rfl⟩))
    go_ret2
    exact ⟨ret2 e1.out e2.out, rfl⟩
  · cases h2 : inB r 1 10000
    · skip
      have e1 := Lib.hid (show 0 = wfR m r by simp [wfR, h1, h2])
      have e2 := Lib.hid (show 2 = wfC m r by simp [wfC, h1, h2])
      go_enter Try.func15, Try.ntmps15
      go_wp2_with (first | (go_at_call 55; refine (within_any _ _ _ _).mono ?_; rintro e w1 ⟨rfl, rfl⟩) | (go_at_call 56; refine (ceilDiv_any _ _ _ (by omega) (by omega)).mono ?_; rintro e w1 ⟨rfl, rfl⟩))
      go_ret2
      exact ⟨ret2 e1.out e2.out, rfl⟩
    · have b1 := inB_iff.1 h1
      have b2 := inB_iff.1 h2
      have hz : (r == 0) = false := by simp; omega
      have ce := Lib.hid (ceil_eq (m := m) (r := r) (by omega))
      have g1 := Int.ediv_nonneg (a := m + r - 1) (b := r) (by omega) (by omega)
      have g2 := Int.ediv_le_self (a := m + r - 1) r (by omega)
      have e1 := Lib.hid (show -(-m / r) = wfR m r by simp [wfR, h1, h2])
      have e2 := Lib.hid (show 0 = wfC m r by simp [wfC, h1, h2])
      go_enter Try.func15, Try.ntmps15
      go_wp2_with (first | (go_at_call 55; refine (within_any _ _ _ _).mono ?_; rintro e w1 ⟨rfl, rfl⟩) | (go_at_call 56; refine (ceilDiv_any _ _ _ (by omega) (by omega)).mono ?_; rintro e w1 ⟨rfl, rfl⟩))
      go_ret2
      exact ⟨ret2 e1.out e2.out, rfl⟩

set_option maxHeartbeats 1000000 in
theorem specWeightFor_any (m r : Int) (w : World) : Calls Try.prog 14 #[.int .i64 m, .int .i64 r] w fun e w' => e = .returned (.tuple #[.int .i64 (wfR m r), .int .i64 (wfC m r)]) ∧ w = w' := by
  cases h1 : inB m 0 1000000000
  · skip
    have e1 := Lib.hid (show 0 = wfR m r by simp [wfR, h1])
    have e2 := Lib.hid (show 2 = wfC m r by simp [wfC, h1])
    go_enter Try.func14, Try.ntmps14
    go_wp2_with (first | (go_at_call 54; refine (l00In_any _ _ _ _).mono ?_; rintro e w1 ⟨rfl, rfl⟩))
    go_ret2
    exact ⟨ret2 e1.out e2.out, rfl⟩
  · cases h2 : inB r 1 10000
    · skip
      have e1 := Lib.hid (show 0 = wfR m r by simp [wfR, h1, h2])
      have e2 := Lib.hid (show 2 = wfC m r by simp [wfC, h1, h2])
      go_enter Try.func14, Try.ntmps14
      go_wp2_with (first | (go_at_call 54; refine (l00In_any _ _ _ _).mono ?_; rintro e w1 ⟨rfl, rfl⟩))
      go_ret2
      exact ⟨ret2 e1.out e2.out, rfl⟩
    · have b1 := inB_iff.1 h1
      have b2 := inB_iff.1 h2
      have hz : (r == 0) = false := by simp; omega
      have ce := Lib.hid (ceil_eq (m := m) (r := r) (by omega))
      have g1 := Int.ediv_nonneg (a := m + r - 1) (b := r) (by omega) (by omega)
      have g2 := Int.ediv_le_self (a := m + r - 1) r (by omega)
      have e1 := Lib.hid (show -(-m / r) = wfR m r by simp [wfR, h1, h2])
      have e2 := Lib.hid (show 0 = wfC m r by simp [wfC, h1, h2])
      go_enter Try.func14, Try.ntmps14
      go_wp2_with (first | (go_at_call 54; refine (l00In_any _ _ _ _).mono ?_; rintro e w1 ⟨rfl, rfl⟩))
      go_ret2
      exact ⟨ret2 (ce.out.trans e1.out) e2.out, rfl⟩

set_option maxHeartbeats 400000 in
theorem weightFor_walk (m r : Int) (w : World) (b0 : -9223372036854775808 ≤ m ∧ m ≤ 9223372036854775807) (b1 : -9223372036854775808 ≤ r ∧ r ≤ 9223372036854775807) :
    Calls Try.prog 3 #[.int .i64 m, .int .i64 r] w fun e w' => e = .returned (.bool true) ∧ Ext w w' := by
  clear b0 b1
  go_enter Try.func3, Try.ntmps3
  go_wp2_with (first | (go_at_call 14; refine (specWeightFor_any m r _).mono ?_; rintro e w1 ⟨rfl, rfl⟩) | (go_at_call 15; refine (implWeightFor_any m r _).mono ?_; rintro e w1 ⟨rfl, rfl⟩))
  go_ret
  exact ⟨rfl, Ext.refl _⟩

end Go.Proofs.Ytgkpganbepbjnaa
