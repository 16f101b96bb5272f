/-
  The greatest common divisor, and valid ratios.
-/
import Derived.Test.YtehebhphlaghfaaNum
namespace Go.Proofs.Ytehebhphlaghfaa
open Go.RowKit
set_option linter.unusedSimpArgs false
set_option linter.unusedVariables false

def gcdI (a b : Int) : Int := ((Nat.gcd a.natAbs b.natAbs : Nat) : Int)
theorem gcdI_step (x y : Int) : gcdI y (x.tmod y) = gcdI x y := by
  unfold gcdI
  rw [Int.natAbs_tmod, Nat.gcd_comm, ← Nat.gcd_rec, Nat.gcd_comm]
theorem gcdI_zero (x : Int) : gcdI x 0 = (x.natAbs : Int) := by simp [gcdI]
theorem gcdI_abs (x y : Int) : gcdI (x.natAbs : Int) y = gcdI x y := by simp [gcdI]
theorem tmod_small {x y : Int} (hy : y ≠ 0) : (x.tmod y).natAbs < y.natAbs := by
  rw [Int.natAbs_tmod]
  exact Nat.mod_lt _ (by omega)
def vRat (n d : Int) : Bool := inB d 1 1000000000 && inB n (-1000000000) 1000000000 && (gcdI n d == 1)

set_option maxHeartbeats 1000000 in
theorem gcd_any (a b : Int) (w : World) (ha : -1000000000 ≤ a ∧ a ≤ 1000000000) (hb : -1000000000 ≤ b ∧ b ≤ 1000000000) :
    Calls Try.prog 93 #[.int .i64 a, .int .i64 b] w fun e w' => e = .returned (.int .i64 (gcdI a b)) ∧ Ext w w' := by
  go_enter Try.func93, Try.ntmps93
  go_wp2
  go_loopw [0, 1] (fun s0 s1 wr => ∃ x y : Int, s0 = .int .i64 x ∧ s1 = .int .i64 y ∧ (-1000000000 ≤ x ∧ x ≤ 1000000000) ∧ (-1000000000 ≤ y ∧ y ≤ 1000000000) ∧ Ext w wr ∧ Hid (gcdI a b = gcdI x y)) (fun _ s1 _ => (intOf s1).natAbs)
  case atStart => exact ⟨a, b, rfl, rfl, ha, hb, Ext.refl _, rfl⟩
  case round =>
    obtain ⟨x, y, rfl, rfl, hx, hy, xw, hg⟩ := hrel
    by_cases h0 : y = 0
    · subst h0
      by_cases hx0 : x < 0
      · have e := Lib.hid (show -x = gcdI a b by rw [hg.out, gcdI_zero]; omega)
        go_wp2
        go_ret
        exact ⟨ret_int e.out, xw⟩
      · have e := Lib.hid (show x = gcdI a b by rw [hg.out, gcdI_zero]; omega)
        go_wp2
        go_ret
        exact ⟨ret_int e.out, xw⟩
    · have f1 : (y != 0) = true := by simpa using h0
      have f2 : (y == 0) = false := by simpa using h0
      have hs := Lib.hid (tmod_small (x := x) h0)
      have hm : -1000000000 ≤ x.tmod y ∧ x.tmod y ≤ 1000000000 := by have := hs.out; omega
      have hn := Lib.hid (gcdI_step x y)
      have q1 : IntKind.i64.wrap (x.tmod y) = x.tmod y := IntWalk.i64_in _ (by omega)
      go_wp2
      go_quiet (fail)
      go_wp2
      go_roundw
      case rel => exact ⟨y, x.tmod y, rfl, rfl, hy, hm, xw.drewN _, hg.out.trans hn.out.symm⟩
      case measure => simpa [intOf] using hs.out



set_option maxHeartbeats 1000000 in
theorem implValidRatio_any (n d : Int) (w : World) : Calls Try.prog 83 #[.agg #[.int .i64 n, .int .i64 d]] w fun e w' => e = .returned (.bool (vRat n d)) ∧ Ext w w' := by
  cases h1 : inB d 1 1000000000
  · have e := Lib.hid (show false = vRat n d by simp [vRat, h1])
    go_enter Try.func83, Try.ntmps83
    go_wp2_with (first | (go_at_call 58; refine (within_any _ _ _ _).mono ?_; rintro e w1 ⟨rfl, rfl⟩) | (go_at_call 93; refine (gcd_any n d _ hn (by omega)).mono ?_; rintro e w1 ⟨rfl, x1⟩; (try clear xc xf xs); (first | replace x0 := x0.trans x1 | replace x0 := (x0.alloc _).trans x1 | replace x0 := (x0.drew).trans x1 | replace x0 := (x0.drew.alloc _).trans x1 | replace x0 := (x0.alloc _).drew.trans x1 | replace x0 := ((x0.alloc _).alloc _).trans x1 | have x0 := x1); clear x1; obtain ⟨xc, xf, xs⟩ := x0.cells))
    go_ret
    exact ⟨ret_bool e.out, ((Ext.refl _).alloc _)⟩
  · have hd := inB_iff.1 h1
    cases h2 : inB n (-1000000000) 1000000000
    · have e := Lib.hid (show false = vRat n d by simp [vRat, h2])
      go_enter Try.func83, Try.ntmps83
      go_wp2_with (first | (go_at_call 58; refine (within_any _ _ _ _).mono ?_; rintro e w1 ⟨rfl, rfl⟩) | (go_at_call 93; refine (gcd_any n d _ hn (by omega)).mono ?_; rintro e w1 ⟨rfl, x1⟩; (try clear xc xf xs); (first | replace x0 := x0.trans x1 | replace x0 := (x0.alloc _).trans x1 | replace x0 := (x0.drew).trans x1 | replace x0 := (x0.drew.alloc _).trans x1 | replace x0 := (x0.alloc _).drew.trans x1 | replace x0 := ((x0.alloc _).alloc _).trans x1 | have x0 := x1); clear x1; obtain ⟨xc, xf, xs⟩ := x0.cells))
      go_ret
      exact ⟨ret_bool e.out, ((Ext.refl _).alloc _)⟩
    · have hn := inB_iff.1 h2
      have e := Lib.hid (show (gcdI n d == 1) = vRat n d by simp [vRat, h1, h2])
      go_enter Try.func83, Try.ntmps83
      go_wp2_with (first | (go_at_call 58; refine (within_any _ _ _ _).mono ?_; rintro e w1 ⟨rfl, rfl⟩) | (go_at_call 93; refine (gcd_any n d _ hn (by omega)).mono ?_; rintro e w1 ⟨rfl, x1⟩; (try clear xc xf xs); (first | replace x0 := x0.trans x1 | replace x0 := (x0.alloc _).trans x1 | replace x0 := (x0.drew).trans x1 | replace x0 := (x0.drew.alloc _).trans x1 | replace x0 := (x0.alloc _).drew.trans x1 | replace x0 := ((x0.alloc _).alloc _).trans x1 | have x0 := x1); clear x1; obtain ⟨xc, xf, xs⟩ := x0.cells))
      go_ret
      exact ⟨ret_bool e.out, ((Ext.refl _).alloc _).trans x0⟩

end Go.Proofs.Ytehebhphlaghfaa
