/-
  Contracts of the days that a spring drives a clock, and the walk of their law.
-/
import Derived.Test.YtgkpganbepbjnaaRatio
namespace Go.Proofs.Ytgkpganbepbjnaa
open Go.RowKit
set_option linter.unusedSimpArgs false
set_option linter.unusedVariables false

def daR (r n d : Int) : Int := if vRat n d = false then 0 else if inB r 0 2000 = false then 0 else if n ≤ 0 then 0 else r * d / (100 * n)
def daC (r n d : Int) : Int := if vRat n d = false then 1 else if inB r 0 2000 = false then 2 else if n ≤ 0 then 6 else 0
theorem vRat_bd {n d : Int} (h : vRat n d = true) : (1 ≤ d ∧ d ≤ 1000000000) ∧ (-1000000000 ≤ n ∧ n ≤ 1000000000) ∧ gcdI n d = 1 := by
  simpa [vRat, inB_iff, and_assoc] using h

set_option maxHeartbeats 1000000 in
theorem implDaysOf_any (r n d : Int) (w : World) : Calls Try.prog 18 #[.int .i64 r, .agg #[.int .i64 n, .int .i64 d]] w fun e w' => e = .returned (.tuple #[.int .i64 (daR r n d), .int .i64 (daC r n d)]) ∧ Ext w w' := by
  cases h1 : vRat n d
  · skip
    have e1 := Lib.hid (show 0 = daR r n d by simp [daR, h1])
    have e2 := Lib.hid (show 1 = daC r n d by simp [daC, h1])
    go_enter Try.func18, Try.ntmps18
    go_wp2_with (first | (go_at_call 58; refine (implValidRatio_any n d _).mono ?_; rintro e w1 ⟨rfl, x1⟩; (try clear xc xf xs); (first | replace x0 := x0.trans x1 | replace x0 := (x0.alloc _).trans x1 | replace x0 := (x0.drew).trans x1 | replace x0 := (x0.drew.alloc _).trans x1 | replace x0 := (x0.alloc _).drew.trans x1 | replace x0 := ((x0.alloc _).alloc _).trans x1 | have x0 := x1); clear x1; obtain ⟨xc, xf, xs⟩ := x0.cells) | (go_at_call 55; refine (within_any _ _ _ _).mono ?_; rintro e w1 ⟨rfl, rfl⟩))
    go_ret2
    exact ⟨ret2 e1.out e2.out, ((Ext.refl _).alloc _).trans x0⟩
  · obtain ⟨hd, hn, _⟩ := vRat_bd h1
    cases h2 : inB r 0 2000
    · skip
      have e1 := Lib.hid (show 0 = daR r n d by simp [daR, h1, h2])
      have e2 := Lib.hid (show 2 = daC r n d by simp [daC, h1, h2])
      go_enter Try.func18, Try.ntmps18
      go_wp2_with (first | (go_at_call 58; refine (implValidRatio_any n d _).mono ?_; rintro e w1 ⟨rfl, x1⟩; (try clear xc xf xs); (first | replace x0 := x0.trans x1 | replace x0 := (x0.alloc _).trans x1 | replace x0 := (x0.drew).trans x1 | replace x0 := (x0.drew.alloc _).trans x1 | replace x0 := (x0.alloc _).drew.trans x1 | replace x0 := ((x0.alloc _).alloc _).trans x1 | have x0 := x1); clear x1; obtain ⟨xc, xf, xs⟩ := x0.cells) | (go_at_call 55; refine (within_any _ _ _ _).mono ?_; rintro e w1 ⟨rfl, rfl⟩))
      go_ret2
      exact ⟨ret2 e1.out e2.out, ((Ext.refl _).alloc _).trans x0⟩
    · have hr := inB_iff.1 h2
      by_cases h3 : n ≤ 0
      · skip
        have e1 := Lib.hid (show 0 = daR r n d by simp [daR, h1, h2, h3])
        have e2 := Lib.hid (show 6 = daC r n d by simp [daC, h1, h2, h3])
        go_enter Try.func18, Try.ntmps18
        go_wp2_with (first | (go_at_call 58; refine (implValidRatio_any n d _).mono ?_; rintro e w1 ⟨rfl, x1⟩; (try clear xc xf xs); (first | replace x0 := x0.trans x1 | replace x0 := (x0.alloc _).trans x1 | replace x0 := (x0.drew).trans x1 | replace x0 := (x0.drew.alloc _).trans x1 | replace x0 := (x0.alloc _).drew.trans x1 | replace x0 := ((x0.alloc _).alloc _).trans x1 | have x0 := x1); clear x1; obtain ⟨xc, xf, xs⟩ := x0.cells) | (go_at_call 55; refine (within_any _ _ _ _).mono ?_; rintro e w1 ⟨rfl, rfl⟩))
        go_ret2
        exact ⟨ret2 e1.out e2.out, ((Ext.refl _).alloc _).trans x0⟩
      · have b := mul_bd (x := r) (y := d) (X := 2000) (Y := 1000000000) hr (by omega)
        have hz : (100 * n == 0) = false := by simp; omega
        have g1 := Int.ediv_nonneg (a := r * d) (b := 100 * n) b.1 (by omega)
        have g2 := Int.ediv_le_self (a := r * d) (100 * n) b.1
        have e1 := Lib.hid (show r * d / (100 * n) = daR r n d by simp [daR, h1, h2, h3])
        have e2 := Lib.hid (show 0 = daC r n d by simp [daC, h1, h2, h3])
        go_enter Try.func18, Try.ntmps18
        go_wp2_with (first | (go_at_call 58; refine (implValidRatio_any n d _).mono ?_; rintro e w1 ⟨rfl, x1⟩; (try clear xc xf xs); (first | replace x0 := x0.trans x1 | replace x0 := (x0.alloc _).trans x1 | replace x0 := (x0.drew).trans x1 | replace x0 := (x0.drew.alloc _).trans x1 | replace x0 := (x0.alloc _).drew.trans x1 | replace x0 := ((x0.alloc _).alloc _).trans x1 | have x0 := x1); clear x1; obtain ⟨xc, xf, xs⟩ := x0.cells) | (go_at_call 55; refine (within_any _ _ _ _).mono ?_; rintro e w1 ⟨rfl, rfl⟩))
        go_ret2
        exact ⟨ret2 e1.out e2.out, ((Ext.refl _).alloc _).trans x0⟩

set_option maxHeartbeats 1000000 in
theorem specDaysOf_any (r n d : Int) (w : World) : Calls Try.prog 16 #[.int .i64 r, .agg #[.int .i64 n, .int .i64 d]] w fun e w' => e = .returned (.tuple #[.int .i64 (daR r n d), .int .i64 (daC r n d)]) ∧ Ext w w' := by
  cases h1 : vRat n d
  · skip
    have e1 := Lib.hid (show 0 = daR r n d by simp [daR, h1])
    have e2 := Lib.hid (show 1 = daC r n d by simp [daC, h1])
    go_enter Try.func16, Try.ntmps16
    go_wp2_with (first | (go_at_call 57; refine (l02Ok_any n d _).mono ?_; rintro e w1 ⟨rfl, x1⟩; (try clear xc xf xs); (first | replace x0 := x0.trans x1 | replace x0 := (x0.alloc _).trans x1 | replace x0 := (x0.drew).trans x1 | replace x0 := (x0.drew.alloc _).trans x1 | replace x0 := (x0.alloc _).drew.trans x1 | replace x0 := ((x0.alloc _).alloc _).trans x1 | have x0 := x1); clear x1; obtain ⟨xc, xf, xs⟩ := x0.cells) | (go_at_call 54; refine (l00In_any _ _ _ _).mono ?_; rintro e w1 ⟨rfl, rfl⟩))
    go_ret2
    exact ⟨ret2 e1.out e2.out, ((Ext.refl _).alloc _).trans x0⟩
  · obtain ⟨hd, hn, _⟩ := vRat_bd h1
    cases h2 : inB r 0 2000
    · skip
      have e1 := Lib.hid (show 0 = daR r n d by simp [daR, h1, h2])
      have e2 := Lib.hid (show 2 = daC r n d by simp [daC, h1, h2])
      go_enter Try.func16, Try.ntmps16
      go_wp2_with (first | (go_at_call 57; refine (l02Ok_any n d _).mono ?_; rintro e w1 ⟨rfl, x1⟩; (try clear xc xf xs); (first | replace x0 := x0.trans x1 | replace x0 := (x0.alloc _).trans x1 | replace x0 := (x0.drew).trans x1 | replace x0 := (x0.drew.alloc _).trans x1 | replace x0 := (x0.alloc _).drew.trans x1 | replace x0 := ((x0.alloc _).alloc _).trans x1 | have x0 := x1); clear x1; obtain ⟨xc, xf, xs⟩ := x0.cells) | (go_at_call 54; refine (l00In_any _ _ _ _).mono ?_; rintro e w1 ⟨rfl, rfl⟩))
      go_ret2
      exact ⟨ret2 e1.out e2.out, ((Ext.refl _).alloc _).trans x0⟩
    · have hr := inB_iff.1 h2
      by_cases h3 : n ≤ 0
      · skip
        have e1 := Lib.hid (show 0 = daR r n d by simp [daR, h1, h2, h3])
        have e2 := Lib.hid (show 6 = daC r n d by simp [daC, h1, h2, h3])
        go_enter Try.func16, Try.ntmps16
        go_wp2_with (first | (go_at_call 57; refine (l02Ok_any n d _).mono ?_; rintro e w1 ⟨rfl, x1⟩; (try clear xc xf xs); (first | replace x0 := x0.trans x1 | replace x0 := (x0.alloc _).trans x1 | replace x0 := (x0.drew).trans x1 | replace x0 := (x0.drew.alloc _).trans x1 | replace x0 := (x0.alloc _).drew.trans x1 | replace x0 := ((x0.alloc _).alloc _).trans x1 | have x0 := x1); clear x1; obtain ⟨xc, xf, xs⟩ := x0.cells) | (go_at_call 54; refine (l00In_any _ _ _ _).mono ?_; rintro e w1 ⟨rfl, rfl⟩))
        go_ret2
        exact ⟨ret2 e1.out e2.out, ((Ext.refl _).alloc _).trans x0⟩
      · have b := mul_bd (x := r) (y := d) (X := 2000) (Y := 1000000000) hr (by omega)
        have hz : (100 * n == 0) = false := by simp; omega
        have g1 := Int.ediv_nonneg (a := r * d) (b := 100 * n) b.1 (by omega)
        have g2 := Int.ediv_le_self (a := r * d) (100 * n) b.1
        have e1 := Lib.hid (show r * d / (100 * n) = daR r n d by simp [daR, h1, h2, h3])
        have e2 := Lib.hid (show 0 = daC r n d by simp [daC, h1, h2, h3])
        go_enter Try.func16, Try.ntmps16
        go_wp2_with (first | (go_at_call 57; refine (l02Ok_any n d _).mono ?_; rintro e w1 ⟨rfl, x1⟩; (try clear xc xf xs); (first | replace x0 := x0.trans x1 | replace x0 := (x0.alloc _).trans x1 | replace x0 := (x0.drew).trans x1 | replace x0 := (x0.drew.alloc _).trans x1 | replace x0 := (x0.alloc _).drew.trans x1 | replace x0 := ((x0.alloc _).alloc _).trans x1 | have x0 := x1); clear x1; obtain ⟨xc, xf, xs⟩ := x0.cells) | (go_at_call 54; refine (l00In_any _ _ _ _).mono ?_; rintro e w1 ⟨rfl, rfl⟩))
        go_ret2
        exact ⟨ret2 e1.out e2.out, ((Ext.refl _).alloc _).trans x0⟩

set_option maxHeartbeats 1000000 in
theorem daysOf_walk (r n d : Int) (w : World) (b0 : -9223372036854775808 ≤ r ∧ r ≤ 9223372036854775807) (b1 : -9223372036854775808 ≤ n ∧ n ≤ 9223372036854775807) (b2 : -9223372036854775808 ≤ d ∧ d ≤ 9223372036854775807) :
    Calls Try.prog 4 #[.int .i64 r, .agg #[.int .i64 n, .int .i64 d]] w fun e w' => e = .returned (.bool true) ∧ Ext w w' := by
  clear b0 b1 b2
  go_enter Try.func4, Try.ntmps4
  go_wp2_with fail
  have x0 := Ext.refl (w.alloc (Obj.cells #[.int .i64 n, .int .i64 d] 26))
  go_wp2_with (first | (go_at_call 17; refine (toRatio_any n d _).mono ?_; rintro e w1 ⟨rfl, x1⟩; (try clear xc xf xs); (first | replace x0 := x0.trans x1 | replace x0 := (x0.alloc _).trans x1 | replace x0 := (x0.drew).trans x1 | replace x0 := (x0.drew.alloc _).trans x1 | replace x0 := (x0.alloc _).drew.trans x1 | replace x0 := ((x0.alloc _).alloc _).trans x1 | have x0 := x1); clear x1; obtain ⟨xc, xf, xs⟩ := x0.cells) | (go_at_call 16; refine (specDaysOf_any r n d _).mono ?_; rintro e w1 ⟨rfl, x1⟩; (try clear xc xf xs); (first | replace x0 := x0.trans x1 | replace x0 := (x0.alloc _).trans x1 | replace x0 := (x0.drew).trans x1 | replace x0 := (x0.drew.alloc _).trans x1 | replace x0 := (x0.alloc _).drew.trans x1 | replace x0 := ((x0.alloc _).alloc _).trans x1 | have x0 := x1); clear x1; obtain ⟨xc, xf, xs⟩ := x0.cells) | (go_at_call 18; refine (implDaysOf_any r n d _).mono ?_; rintro e w1 ⟨rfl, x1⟩; (try clear xc xf xs); (first | replace x0 := x0.trans x1 | replace x0 := (x0.alloc _).trans x1 | replace x0 := (x0.drew).trans x1 | replace x0 := (x0.drew.alloc _).trans x1 | replace x0 := (x0.alloc _).drew.trans x1 | replace x0 := ((x0.alloc _).alloc _).trans x1 | have x0 := x1); clear x1; obtain ⟨xc, xf, xs⟩ := x0.cells))
  go_ret
  exact ⟨rfl, ((Ext.refl _).alloc _).trans x0⟩

end Go.Proofs.Ytgkpganbepbjnaa
