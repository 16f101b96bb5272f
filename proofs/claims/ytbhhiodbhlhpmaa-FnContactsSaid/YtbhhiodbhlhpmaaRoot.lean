/-
  Contracts of the integer root: the program's from above, the reference's by halving.
-/
import Derived.Test.YtbhhiodbhlhpmaaRootP
import Derived.Test.YtbhhiodbhlhpmaaNum
import Derived.Test.YtbhhiodbhlhpmaaLen64
import Derived.Deep.DeepCutAuto
namespace Go.Proofs.Ytbhhiodbhlhpmaa
open Go.RowKit
set_option linter.unusedSimpArgs false
set_option linter.unusedVariables false

set_option maxHeartbeats 1000000 in
theorem rootOf_any (n : Int) (w : World) (hn : 0 ≤ n ∧ n ≤ 4000000000000000000) :
    Calls Try.prog 79 #[.int .i64 n] w fun e w' => e = .returned (.int .i64 (rootI n)) ∧ w = w' := by
  by_cases h0 : n = 0
  · subst h0
    have e := Lib.hid (show 0 = rootI 0 from rootI_eq (by omega) (by omega) (by omega))
    go_enter Try.func79, Try.ntmps79
    go_wp2
    go_ret
    exact ⟨ret_int e.out, rfl⟩
  have hz : (n == 0) = false := by simpa using h0
  have qu : IntKind.u64.wrap n = n := by rw [IntKind.wrap_u64]; omega
  have hb : Lib.bitLen n.toNat ≤ 62 := bl_le 64 _ 62 (by omega)
  obtain ⟨k1, k2, k3, k4⟩ := newt_start (n := n) (by omega) hn.2
  go_enter Try.func79, Try.ntmps79
  go_upto_region 4 with (go_at_call 87; refine (len64_any _ _ (by omega) (by omega)).mono ?_; rintro e w1 ⟨rfl, rfl⟩)
  generalize (2 : Int) ^ ((Lib.bitLen n.toNat + 1) / 2) = R at *
  clear k1 hb
  generalize hB : Lib.bitLen n.toNat = B at *
  clear hB
  have hR0 : ¬ R = 0 := by omega
  have q0 := newt_bd (n := n) (r := R) (by omega) k3 k2
  have q1 : IntKind.i64.wrap (R + n / R) = R + n / R := IntWalk.i64_in _ (by omega)
  have q2 := q0.1
  have q3 := q0.2.1
  have q4 := q0.2.2
  go_wp2_with fail
  go_loop [3, 4] (fun r nx => ∃ x y : Int, r = .int .i64 x ∧ nx = .int .i64 y ∧ (1 ≤ x ∧ x ≤ 2147483648) ∧ rootI n ≤ x ∧ y = (x + n / x) / 2) (fun r _ => (intOf r).toNat)
  case atStart => exact ⟨R, _, rfl, rfl, by omega, by omega, rfl⟩
  case round =>
    clear q0 q1 q2 q3 q4 hR0 k2 k3 k4 hz
    obtain ⟨x, y, rfl, rfl, hx, hs, hy⟩ := hrel
    have u1 := newt_up (n := n) (r := x) (by omega) hx.1
    have u2 := newt_bd (n := n) (r := x) (by omega) hx.1 hs
    rw [← hy] at u1 u2
    by_cases hlt : y < x
    · have u3 := newt_bd (n := n) (r := y) (by omega) u2.1 u1
      have hy0 : ¬ y = 0 := by omega
      have q0 := u2.1
      have q1 := u3.1
      have q2 := u3.2.1
      have q3 := u3.2.2
      clear hy u3 u2
      go_wp2_with fail
      go_round
      case rel => exact ⟨y, _, rfl, rfl, by omega, u1, rfl⟩
      case measure => simp [intOf]; omega
    · have e := Lib.hid (newt_stop (n := n) (r := x) (by omega) hx.1 hs (by rw [← hy]; exact hlt))
      clear hy u1 u2 hs
      go_wp2_with fail
      go_ret
      exact ⟨ret_int e.out, rfl⟩

set_option maxHeartbeats 400000 in
theorem rootUp_any (n : Int) (w : World) (hn : 0 ≤ n ∧ n ≤ 4000000000000000000) :
    Calls Try.prog 80 #[.int .i64 n] w fun e w' => e = .returned (.int .i64 (upI n)) ∧ w = w' := by
  obtain ⟨h0, h1, h2⟩ := rootI_spec hn.1
  have h3 := rootI_le (r := 2000000000) hn.1 (by omega) (by omega)
  have h4 := Int.mul_nonneg h0 h0
  have q1 : IntKind.i64.wrap (rootI n * rootI n) = rootI n * rootI n := IntWalk.i64_in _ (by omega)
  by_cases h : rootI n * rootI n < n
  · have e := Lib.hid (show rootI n + 1 = upI n by simp [upI, h])
    go_enter Try.func80, Try.ntmps80
    go_wp2_with (go_at_call 79; refine (rootOf_any _ _ hn).mono ?_; rintro e w1 ⟨rfl, rfl⟩)
    go_ret
    exact ⟨ret_int e.out, rfl⟩
  · have e := Lib.hid (show rootI n = upI n by simp [upI, h])
    go_enter Try.func80, Try.ntmps80
    go_wp2_with (go_at_call 79; refine (rootOf_any _ _ hn).mono ?_; rintro e w1 ⟨rfl, rfl⟩)
    go_ret
    exact ⟨ret_int e.out, rfl⟩
set_option maxHeartbeats 1000000 in
theorem l10Root_any (n : Int) (w : World) (hn : 0 ≤ n ∧ n ≤ 4000000000000000000) :
    Calls Try.prog 75 #[.int .i64 n] w fun e w' => e = .returned (.int .i64 (rootI n)) ∧ w = w' := by
  go_enter Try.func75, Try.ntmps75
  go_wp2
  go_loop [3, 4] (fun l h => ∃ x y : Int, l = .int .i64 x ∧ h = .int .i64 y ∧ (0 ≤ x ∧ x ≤ y ∧ y ≤ 2000000000) ∧ x * x ≤ n ∧ n < (y + 1) * (y + 1)) (fun l h => (intOf h - intOf l).toNat)
  case atStart => exact ⟨0, 2000000000, rfl, rfl, by omega, by omega, by omega⟩
  case round =>
    obtain ⟨x, y, rfl, rfl, hx, h1, h2⟩ := hrel
    by_cases hlt : x < y
    · have hmb : x < (x + y + 1) / 2 ∧ (x + y + 1) / 2 ≤ y := by omega
      have hmm := mul_bd (x := (x + y + 1) / 2) (y := (x + y + 1) / 2) (X := 2000000000) (Y := 2000000000) (by omega) (by omega)
      have q1 : IntKind.i64.wrap ((x + y + 1) / 2 * ((x + y + 1) / 2)) = (x + y + 1) / 2 * ((x + y + 1) / 2) := IntWalk.i64_in _ (by omega)
      by_cases hc : (x + y + 1) / 2 * ((x + y + 1) / 2) ≤ n
      · clear h1
        go_wp2_with fail
        go_round
        case rel => exact ⟨(x + y + 1) / 2, y, rfl, rfl, by omega, hc, h2⟩
        case measure => simp [intOf]; omega
      · clear h2
        go_wp2_with fail
        go_round
        case rel => exact ⟨x, (x + y + 1) / 2 - 1, rfl, rfl, by omega, h1, by rw [show (x + y + 1) / 2 - 1 + 1 = (x + y + 1) / 2 by omega]; omega⟩
        case measure => simp [intOf]; omega
    · obtain rfl : x = y := by omega
      have e := Lib.hid (rootI_eq (by omega) h1 h2)
      clear h1 h2
      go_wp2_with fail
      go_ret
      exact ⟨ret_int e.out, rfl⟩
set_option maxHeartbeats 400000 in
theorem l10Above_any (n : Int) (w : World) (hn : 0 ≤ n ∧ n ≤ 4000000000000000000) :
    Calls Try.prog 77 #[.int .i64 n] w fun e w' => e = .returned (.int .i64 (upI n)) ∧ w = w' := by
  obtain ⟨h0, h1, h2⟩ := rootI_spec hn.1
  have h3 := rootI_le (r := 2000000000) hn.1 (by omega) (by omega)
  have h4 := Int.mul_nonneg h0 h0
  have q1 : IntKind.i64.wrap (rootI n * rootI n) = rootI n * rootI n := IntWalk.i64_in _ (by omega)
  by_cases h : rootI n * rootI n < n
  · have e := Lib.hid (show rootI n + 1 = upI n by simp [upI, h])
    go_enter Try.func77, Try.ntmps77
    go_wp2_with (go_at_call 75; refine (l10Root_any _ _ hn).mono ?_; rintro e w1 ⟨rfl, rfl⟩)
    go_ret
    exact ⟨ret_int e.out, rfl⟩
  · have e := Lib.hid (show rootI n = upI n by simp [upI, h])
    go_enter Try.func77, Try.ntmps77
    go_wp2_with (go_at_call 75; refine (l10Root_any _ _ hn).mono ?_; rintro e w1 ⟨rfl, rfl⟩)
    go_ret
    exact ⟨ret_int e.out, rfl⟩
end Go.Proofs.Ytbhhiodbhlhpmaa
