/-
  Contracts of the least number of teeth, and the walk of its law.
-/
import Derived.Test.YtbhhiodbhlhpmaaAngle
namespace Go.Proofs.Ytbhhiodbhlhpmaa
open Go.RowKit
set_option linter.unusedSimpArgs false
set_option linter.unusedVariables false

def ltZ (s c h k : Int) : Int := if vAngle s c h = false then 0 else if inB k 1 20 = false then 0 else if 240 < max 6 (-(-(2 * k * h * h) / (10 * s * s))) then 0 else max 6 (-(-(2 * k * h * h) / (10 * s * s)))
def ltC (s c h k : Int) : Int := if vAngle s c h = false then 1 else if inB k 1 20 = false then 2 else if 240 < max 6 (-(-(2 * k * h * h) / (10 * s * s))) then 3 else 0

theorem vAngle_iff {s c h : Int} : vAngle s c h = true ↔ (1 ≤ s ∧ s ≤ 1000) ∧ (1 ≤ c ∧ c ≤ 1000) ∧ (1 ≤ h ∧ h ≤ 1000) ∧ s * s + c * c = h * h := by
  simp [vAngle, inB_iff, and_assoc]

/-- The ceiling of a quotient is at most z just where the product reaches. -/
theorem ceil_le {X D z : Int} (hD : 1 ≤ D) : -(-X / D) ≤ z ↔ X ≤ z * D := by
  have h := Int.le_ediv_iff_mul_le (a := -z) (b := -X) (c := D) (by omega)
  rw [Int.neg_mul] at h
  omega

theorem lt_found {X D z : Int} (hD : 1 ≤ D) (hz : 6 ≤ z) (h1 : X ≤ z * D) (h2 : z = 6 ∨ ¬ X ≤ (z - 1) * D) : max 6 (-(-X / D)) = z := by
  have k1 := (ceil_le hD).2 h1
  rcases h2 with h2 | h2
  · omega
  · have k2 := mt (@ceil_le X D (z - 1) hD).1 h2
    omega
theorem lt_none {X D z : Int} (hD : 1 ≤ D) (hz : 240 < z) (h2 : z = 6 ∨ ¬ X ≤ (z - 1) * D) : 240 < max 6 (-(-X / D)) := by
  rcases h2 with h2 | h2
  · omega
  · have k2 := mt (@ceil_le X D (z - 1) hD).1 h2
    omega
theorem lt_assoc (z s : Int) : 10 * z * s * s = z * (10 * s * s) := by
  simp only [Int.mul_assoc, Int.mul_left_comm]

set_option maxHeartbeats 1000000 in
theorem implLeastTeeth_any (s c h k : Int) (w : World) : Calls Try.prog 32 #[.agg #[.int .i64 s, .int .i64 c, .int .i64 h], .int .i64 k] w fun e w' => e = .returned (.tuple #[.int .i64 (ltZ s c h k), .int .i64 (ltC s c h k)]) ∧ Ext w w' := by
  cases h1 : vAngle s c h
  · have e1 := Lib.hid (show 0 = ltZ s c h k by simp [ltZ, h1])
    have e2 := Lib.hid (show 1 = ltC s c h k by simp [ltC, h1])
    go_enter Try.func32, Try.ntmps32
    go_wp2_with fail
    have x0 := Ext.refl (w.alloc (Obj.cells #[.int .i64 s, .int .i64 c, .int .i64 h] 25))
    go_wp2_with (first | (go_at_call 20; refine (implValidAngle_any s c h _).mono ?_; rintro e w1 ⟨rfl, x1⟩; (try clear xc xf xs); (first | replace x0 := x0.trans x1 | replace x0 := (x0.alloc _).trans x1 | replace x0 := (x0.drew).trans x1 | replace x0 := ((x0.alloc _).alloc _).trans x1); clear x1; obtain ⟨xc, xf, xs⟩ := x0.cells) | (go_at_call 51; refine (within_any _ _ _ _).mono ?_; rintro e w1 ⟨rfl, rfl⟩) | (go_at_call 55; refine (ceilDiv_any _ _ _ (by omega) (by omega)).mono ?_; rintro e w1 ⟨rfl, rfl⟩))
    go_ret2
    exact ⟨ret2 e1.out e2.out, ((Ext.refl _).alloc _).trans x0⟩
  · cases h2 : inB k 1 20
    · have e1 := Lib.hid (show 0 = ltZ s c h k by simp [ltZ, h1, h2])
      have e2 := Lib.hid (show 2 = ltC s c h k by simp [ltC, h1, h2])
      go_enter Try.func32, Try.ntmps32
      go_wp2_with fail
      have x0 := Ext.refl (w.alloc (Obj.cells #[.int .i64 s, .int .i64 c, .int .i64 h] 25))
      go_wp2_with (first | (go_at_call 20; refine (implValidAngle_any s c h _).mono ?_; rintro e w1 ⟨rfl, x1⟩; (try clear xc xf xs); (first | replace x0 := x0.trans x1 | replace x0 := (x0.alloc _).trans x1 | replace x0 := (x0.drew).trans x1 | replace x0 := ((x0.alloc _).alloc _).trans x1); clear x1; obtain ⟨xc, xf, xs⟩ := x0.cells) | (go_at_call 51; refine (within_any _ _ _ _).mono ?_; rintro e w1 ⟨rfl, rfl⟩) | (go_at_call 55; refine (ceilDiv_any _ _ _ (by omega) (by omega)).mono ?_; rintro e w1 ⟨rfl, rfl⟩))
      go_ret2
      exact ⟨ret2 e1.out e2.out, ((Ext.refl _).alloc _).trans x0⟩
    · have f1 := Lib.hid (show ltZ s c h k = if 240 < max 6 (-(-(2 * k * h * h) / (10 * s * s))) then 0 else max 6 (-(-(2 * k * h * h) / (10 * s * s))) by simp [ltZ, h1, h2])
      have f2 := Lib.hid (show ltC s c h k = if 240 < max 6 (-(-(2 * k * h * h) / (10 * s * s))) then 3 else 0 by simp [ltC, h1, h2])
      obtain ⟨c1, c2, c3, _⟩ := vAngle_iff.1 h1
      have c4 := inB_iff.1 h2
      have d1 : 0 ≤ 2 * k * h ∧ 2 * k * h ≤ 40000 := by have := mul_bd (x := 2 * k) (y := h) (X := 40) (Y := 1000) (by omega) (by omega); omega
      have d2 : 0 ≤ 2 * k * h * h ∧ 2 * k * h * h ≤ 40000000 := by have := mul_bd (x := 2 * k * h) (y := h) (X := 40000) (Y := 1000) (by omega) (by omega); omega
      have d3 : 10 ≤ 10 * s * s ∧ 10 * s * s ≤ 10000000 := by
        have := mul_bd (x := 10 * s) (y := s) (X := 10000) (Y := 1000) (by omega) (by omega)
        have := Int.mul_le_mul (a := 10) (b := 1) (c := 10 * s) (d := s) (by omega) (by omega) (by omega) (by omega)
        omega
      have hq := (@ceil_le (2 * k * h * h) (10 * s * s) 40000000 (by omega)).2 (by omega)
      have hq2 := mt (@ceil_le (2 * k * h * h) (10 * s * s) (-1) (by omega)).1 (by omega)
      by_cases h3 : 240 < max 6 (-(-(2 * k * h * h) / (10 * s * s)))
      · have e1 := Lib.hid (show 0 = ltZ s c h k by rw [f1.out, if_pos h3])
        have e2 := Lib.hid (show 3 = ltC s c h k by rw [f2.out, if_pos h3])
        go_enter Try.func32, Try.ntmps32
        go_wp2_with fail
        have x0 := Ext.refl (w.alloc (Obj.cells #[.int .i64 s, .int .i64 c, .int .i64 h] 25))
        go_wp2_with (first | (go_at_call 20; refine (implValidAngle_any s c h _).mono ?_; rintro e w1 ⟨rfl, x1⟩; (try clear xc xf xs); (first | replace x0 := x0.trans x1 | replace x0 := (x0.alloc _).trans x1 | replace x0 := (x0.drew).trans x1 | replace x0 := ((x0.alloc _).alloc _).trans x1); clear x1; obtain ⟨xc, xf, xs⟩ := x0.cells) | (go_at_call 51; refine (within_any _ _ _ _).mono ?_; rintro e w1 ⟨rfl, rfl⟩) | (go_at_call 55; refine (ceilDiv_any _ _ _ (by omega) (by omega)).mono ?_; rintro e w1 ⟨rfl, rfl⟩))
        go_ret2
        exact ⟨ret2 e1.out e2.out, ((Ext.refl _).alloc _).trans x0⟩
      · by_cases h4 : 6 < -(-(2 * k * h * h) / (10 * s * s))
        · have e1 := Lib.hid (show -(-(2 * k * h * h) / (10 * s * s)) = ltZ s c h k by rw [f1.out, if_neg h3]; omega)
          have e2 := Lib.hid (show 0 = ltC s c h k by rw [f2.out, if_neg h3])
          go_enter Try.func32, Try.ntmps32
          go_wp2_with fail
          have x0 := Ext.refl (w.alloc (Obj.cells #[.int .i64 s, .int .i64 c, .int .i64 h] 25))
          go_wp2_with (first | (go_at_call 20; refine (implValidAngle_any s c h _).mono ?_; rintro e w1 ⟨rfl, x1⟩; (try clear xc xf xs); (first | replace x0 := x0.trans x1 | replace x0 := (x0.alloc _).trans x1 | replace x0 := (x0.drew).trans x1 | replace x0 := ((x0.alloc _).alloc _).trans x1); clear x1; obtain ⟨xc, xf, xs⟩ := x0.cells) | (go_at_call 51; refine (within_any _ _ _ _).mono ?_; rintro e w1 ⟨rfl, rfl⟩) | (go_at_call 55; refine (ceilDiv_any _ _ _ (by omega) (by omega)).mono ?_; rintro e w1 ⟨rfl, rfl⟩))
          go_ret2
          exact ⟨ret2 e1.out e2.out, ((Ext.refl _).alloc _).trans x0⟩
        · have e1 := Lib.hid (show 6 = ltZ s c h k by rw [f1.out, if_neg h3]; omega)
          have e2 := Lib.hid (show 0 = ltC s c h k by rw [f2.out, if_neg h3])
          go_enter Try.func32, Try.ntmps32
          go_wp2_with fail
          have x0 := Ext.refl (w.alloc (Obj.cells #[.int .i64 s, .int .i64 c, .int .i64 h] 25))
          go_wp2_with (first | (go_at_call 20; refine (implValidAngle_any s c h _).mono ?_; rintro e w1 ⟨rfl, x1⟩; (try clear xc xf xs); (first | replace x0 := x0.trans x1 | replace x0 := (x0.alloc _).trans x1 | replace x0 := (x0.drew).trans x1 | replace x0 := ((x0.alloc _).alloc _).trans x1); clear x1; obtain ⟨xc, xf, xs⟩ := x0.cells) | (go_at_call 51; refine (within_any _ _ _ _).mono ?_; rintro e w1 ⟨rfl, rfl⟩) | (go_at_call 55; refine (ceilDiv_any _ _ _ (by omega) (by omega)).mono ?_; rintro e w1 ⟨rfl, rfl⟩))
          go_ret2
          exact ⟨ret2 e1.out e2.out, ((Ext.refl _).alloc _).trans x0⟩

set_option maxHeartbeats 1000000 in
theorem specLeastTeeth_any (s c h k : Int) (w : World) : Calls Try.prog 31 #[.agg #[.int .i64 s, .int .i64 c, .int .i64 h], .int .i64 k] w fun e w' => e = .returned (.tuple #[.int .i64 (ltZ s c h k), .int .i64 (ltC s c h k)]) ∧ Ext w w' := by
  cases h1 : vAngle s c h
  · have e1 := Lib.hid (show 0 = ltZ s c h k by simp [ltZ, h1])
    have e2 := Lib.hid (show 1 = ltC s c h k by simp [ltC, h1])
    go_enter Try.func31, Try.ntmps31
    go_wp2_with fail
    have x0 := Ext.refl (w.alloc (Obj.cells #[.int .i64 s, .int .i64 c, .int .i64 h] 25))
    go_wp2_with (first | (go_at_call 50; refine (l10Angle_any s c h _).mono ?_; rintro e w1 ⟨rfl, x1⟩; (try clear xc xf xs); (first | replace x0 := x0.trans x1 | replace x0 := (x0.alloc _).trans x1 | replace x0 := (x0.drew).trans x1 | replace x0 := ((x0.alloc _).alloc _).trans x1); clear x1; obtain ⟨xc, xf, xs⟩ := x0.cells) | (go_at_call 52; refine (l00In_any _ _ _ _).mono ?_; rintro e w1 ⟨rfl, rfl⟩))
    go_ret2
    exact ⟨ret2 e1.out e2.out, ((Ext.refl _).alloc _).trans x0⟩
  · cases h2 : inB k 1 20
    · have e1 := Lib.hid (show 0 = ltZ s c h k by simp [ltZ, h1, h2])
      have e2 := Lib.hid (show 2 = ltC s c h k by simp [ltC, h1, h2])
      go_enter Try.func31, Try.ntmps31
      go_wp2_with fail
      have x0 := Ext.refl (w.alloc (Obj.cells #[.int .i64 s, .int .i64 c, .int .i64 h] 25))
      go_wp2_with (first | (go_at_call 50; refine (l10Angle_any s c h _).mono ?_; rintro e w1 ⟨rfl, x1⟩; (try clear xc xf xs); (first | replace x0 := x0.trans x1 | replace x0 := (x0.alloc _).trans x1 | replace x0 := (x0.drew).trans x1 | replace x0 := ((x0.alloc _).alloc _).trans x1); clear x1; obtain ⟨xc, xf, xs⟩ := x0.cells) | (go_at_call 52; refine (l00In_any _ _ _ _).mono ?_; rintro e w1 ⟨rfl, rfl⟩))
      go_ret2
      exact ⟨ret2 e1.out e2.out, ((Ext.refl _).alloc _).trans x0⟩
    · have f1 := Lib.hid (show ltZ s c h k = if 240 < max 6 (-(-(2 * k * h * h) / (10 * s * s))) then 0 else max 6 (-(-(2 * k * h * h) / (10 * s * s))) by simp [ltZ, h1, h2])
      have f2 := Lib.hid (show ltC s c h k = if 240 < max 6 (-(-(2 * k * h * h) / (10 * s * s))) then 3 else 0 by simp [ltC, h1, h2])
      obtain ⟨c1, c2, c3, _⟩ := vAngle_iff.1 h1
      have c4 := inB_iff.1 h2
      have d1 : 0 ≤ 2 * k * h ∧ 2 * k * h ≤ 40000 := by have := mul_bd (x := 2 * k) (y := h) (X := 40) (Y := 1000) (by omega) (by omega); omega
      have d2 : 0 ≤ 2 * k * h * h ∧ 2 * k * h * h ≤ 40000000 := by have := mul_bd (x := 2 * k * h) (y := h) (X := 40000) (Y := 1000) (by omega) (by omega); omega
      have d3 : 10 ≤ 10 * s * s ∧ 10 * s * s ≤ 10000000 := by
        have := mul_bd (x := 10 * s) (y := s) (X := 10000) (Y := 1000) (by omega) (by omega)
        have := Int.mul_le_mul (a := 10) (b := 1) (c := 10 * s) (d := s) (by omega) (by omega) (by omega) (by omega)
        omega
      go_enter Try.func31, Try.ntmps31
      go_wp2_with fail
      have x0 := Ext.refl (w.alloc (Obj.cells #[.int .i64 s, .int .i64 c, .int .i64 h] 25))
      go_wp2_with (first | (go_at_call 50; refine (l10Angle_any s c h _).mono ?_; rintro e w1 ⟨rfl, x1⟩; (try clear xc xf xs); (first | replace x0 := x0.trans x1 | replace x0 := (x0.alloc _).trans x1 | replace x0 := (x0.drew).trans x1 | replace x0 := ((x0.alloc _).alloc _).trans x1); clear x1; obtain ⟨xc, xf, xs⟩ := x0.cells) | (go_at_call 52; refine (l00In_any _ _ _ _).mono ?_; rintro e w1 ⟨rfl, rfl⟩))
      go_loop [6] (fun zz => ∃ z : Int, 6 ≤ z ∧ z ≤ 241 ∧ zz = .int .i64 z ∧ Hid (z = 6 ∨ ¬ 2 * k * h * h ≤ (z - 1) * (10 * s * s))) (fun zz => (241 - intOf zz).toNat)
      case atStart => exact ⟨6, by omega, by omega, rfl, .inl rfl⟩
      case round =>
        obtain ⟨z, hz1, hz2, rfl, hz⟩ := hrel
        have g1 : 0 ≤ 10 * z * s ∧ 10 * z * s ≤ 2410000 := by have := mul_bd (x := 10 * z) (y := s) (X := 2410) (Y := 1000) (by omega) (by omega); omega
        have g2 : 0 ≤ 10 * z * s * s ∧ 10 * z * s * s ≤ 2410000000 := by have := mul_bd (x := 10 * z * s) (y := s) (X := 2410000) (Y := 1000) (by omega) (by omega); omega
        have hsa := Lib.hid (lt_assoc z s)
        by_cases hl : z ≤ 240
        · by_cases ht : 2 * k * h * h ≤ 10 * z * s * s
          · have mx := lt_found (X := 2 * k * h * h) (D := 10 * s * s) (by omega) hz1 (by rw [← hsa.out]; exact ht) hz.out
            have e1 := Lib.hid (show z = ltZ s c h k by rw [f1.out, mx, if_neg (by omega)])
            have e2 := Lib.hid (show 0 = ltC s c h k by rw [f2.out, mx, if_neg (by omega)])
            clear mx
            go_wp2
            go_ret2
            exact ⟨ret2 e1.out e2.out, ((Ext.refl _).alloc _).trans x0⟩
          · go_wp2
            go_round
            case rel => exact ⟨z + 1, by omega, by omega, rfl, .inr (by rw [show z + 1 - 1 = z by omega, ← hsa.out]; exact ht)⟩
            case measure => simp [intOf]; omega
        · have mx := lt_none (X := 2 * k * h * h) (D := 10 * s * s) (by omega) (by omega) hz.out
          have e1 := Lib.hid (show 0 = ltZ s c h k by rw [f1.out, if_pos mx])
          have e2 := Lib.hid (show 3 = ltC s c h k by rw [f2.out, if_pos mx])
          clear mx
          go_wp2
          go_ret2
          exact ⟨ret2 e1.out e2.out, ((Ext.refl _).alloc _).trans x0⟩

set_option maxHeartbeats 400000 in
theorem leastTeeth_walk (s c h k : Int) (w : World) (b0 : -9223372036854775808 ≤ s ∧ s ≤ 9223372036854775807) (b1 : -9223372036854775808 ≤ c ∧ c ≤ 9223372036854775807) (b2 : -9223372036854775808 ≤ h ∧ h ≤ 9223372036854775807) (b3 : -9223372036854775808 ≤ k ∧ k ≤ 9223372036854775807) :
    Calls Try.prog 8 #[.agg #[.int .i64 s, .int .i64 c, .int .i64 h], .int .i64 k] w fun e w' => e = .returned (.bool true) ∧ Ext w w' := by
  clear b0 b1 b2 b3
  go_enter Try.func8, Try.ntmps8
  go_wp2_with fail
  have x0 := Ext.refl (w.alloc (Obj.cells #[.int .i64 s, .int .i64 c, .int .i64 h] 23))
  go_wp2_with (first | (go_at_call 19; refine (toAngle_any s c h _).mono ?_; rintro e w1 ⟨rfl, x1⟩; (try clear xc xf xs); (first | replace x0 := x0.trans x1 | replace x0 := (x0.alloc _).trans x1 | replace x0 := (x0.drew).trans x1 | replace x0 := ((x0.alloc _).alloc _).trans x1); clear x1; obtain ⟨xc, xf, xs⟩ := x0.cells) | (go_at_call 31; refine (specLeastTeeth_any s c h k _).mono ?_; rintro e w1 ⟨rfl, x1⟩; (try clear xc xf xs); (first | replace x0 := x0.trans x1 | replace x0 := (x0.alloc _).trans x1 | replace x0 := (x0.drew).trans x1 | replace x0 := ((x0.alloc _).alloc _).trans x1); clear x1; obtain ⟨xc, xf, xs⟩ := x0.cells) | (go_at_call 32; refine (implLeastTeeth_any s c h k _).mono ?_; rintro e w1 ⟨rfl, x1⟩; (try clear xc xf xs); (first | replace x0 := x0.trans x1 | replace x0 := (x0.alloc _).trans x1 | replace x0 := (x0.drew).trans x1 | replace x0 := ((x0.alloc _).alloc _).trans x1); clear x1; obtain ⟨xc, xf, xs⟩ := x0.cells))
  go_ret
  exact ⟨rfl, ((Ext.refl _).alloc _).trans x0⟩

end Go.Proofs.Ytbhhiodbhlhpmaa
