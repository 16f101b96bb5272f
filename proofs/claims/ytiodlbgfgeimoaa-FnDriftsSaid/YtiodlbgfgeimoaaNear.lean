/-
  The nearest quotient.
-/
import Derived.Test.YtiodlbgfgeimoaaNum
namespace Go.Proofs.Ytiodlbgfgeimoaa
open Go.RowKit
set_option linter.unusedSimpArgs false
set_option linter.unusedVariables false

def near (n d : Int) : Int := (2 * n + d) / (2 * d)
theorem near_up {n d : Int} (hd : 1 ≤ d) (h : d - (n - n / d * d) ≤ n - n / d * d) : n / d + 1 = near n d := by
  have h1 : n / d * d ≤ n := Int.ediv_mul_le n (by omega)
  have h2 : n < (n / d + 1) * d := Int.lt_ediv_add_one_mul_self n (by omega)
  generalize n / d = q at *
  have h3 : (q + 1) * d = q * d + d := by rw [Int.add_mul, Int.one_mul]
  unfold near
  symm
  rw [Int.ediv_eq_iff_of_pos (by omega)]
  have h4 : (q + 1) * (2 * d) = 2 * (q * d) + 2 * d := by grind
  have h5 : (q + 1 + 1) * (2 * d) = 2 * (q * d) + 4 * d := by grind
  omega
theorem near_down {n d : Int} (hd : 1 ≤ d) (h : ¬ d - (n - n / d * d) ≤ n - n / d * d) : n / d = near n d := by
  have h1 : n / d * d ≤ n := Int.ediv_mul_le n (by omega)
  generalize n / d = q at *
  unfold near
  symm
  rw [Int.ediv_eq_iff_of_pos (by omega)]
  have h4 : q * (2 * d) = 2 * (q * d) := by grind
  have h5 : (q + 1) * (2 * d) = 2 * (q * d) + 2 * d := by grind
  omega

theorem floor_bd {n d : Int} (hn : -1000000000000000 ≤ n ∧ n ≤ 1000000000000000) (hd : 1 ≤ d ∧ d ≤ 1000000000) : (-1000000000000000 ≤ n / d ∧ n / d ≤ 1000000000000000) ∧ (-1000001000000000 ≤ n / d * d ∧ n / d * d ≤ 1000000000000000) ∧ (0 ≤ n - n / d * d ∧ n - n / d * d < d) := by
  have h1 : n / d * d ≤ n := Int.ediv_mul_le n (by omega)
  have h2 : n < (n / d + 1) * d := Int.lt_ediv_add_one_mul_self n (by omega)
  have h3 : (n / d + 1) * d = n / d * d + d := by rw [Int.add_mul, Int.one_mul]
  refine ⟨?_, by omega, by omega⟩
  have h4 : -1000000000000000 ≤ n / d := Int.le_ediv_of_mul_le (by omega) (by omega)
  have h5 : n / d ≤ 1000000000000000 := Int.ediv_le_of_le_mul (by omega) (by omega)
  exact ⟨h4, h5⟩

set_option maxHeartbeats 1000000 in
theorem nearestDiv_any (n d : Int) (w : World) (hn : -1000000000000000 ≤ n ∧ n ≤ 1000000000000000) (hd : 1 ≤ d ∧ d ≤ 1000000000) :
    Calls Try.prog 80 #[.int .i64 n, .int .i64 d] w fun e w' => e = .returned (.int .i64 (near n d)) ∧ w = w' := by
  obtain ⟨b1, b2, b3⟩ := floor_bd hn hd
  have u := Lib.hid (near_up (n := n) (d := d) hd.1)
  have v := Lib.hid (near_down (n := n) (d := d) hd.1)
  have hq := Lib.hid (rfl : n / d = n / d)
  generalize hqq : n / d = q at b1 b2 b3 u v
  replace hqq := Lib.hid hqq
  clear hq
  have q1 : IntKind.i64.wrap (q * d) = q * d := IntWalk.i64_in _ (by omega)
  have q2 : IntKind.i64.wrap (n - q * d) = n - q * d := IntWalk.i64_in _ (by omega)
  have q3 : IntKind.i64.wrap (d - (n - q * d)) = d - (n - q * d) := IntWalk.i64_in _ (by omega)
  have q4 : IntKind.i64.wrap (q + 1) = q + 1 := IntWalk.i64_in _ (by omega)
  by_cases h : d - (n - q * d) ≤ n - q * d
  · have e := Lib.hid (u.out h)
    clear u v
    go_enter Try.func80, Try.ntmps80
    go_wp2_with (go_at_call 84; refine (floorDiv_any n d _ (by omega) (by omega)).mono ?_; rintro e w1 ⟨rfl, rfl⟩; rw [hqq.out])
    go_ret
    exact ⟨ret_int e.out, rfl⟩
  · have e := Lib.hid (v.out h)
    clear u v
    go_enter Try.func80, Try.ntmps80
    go_wp2_with (go_at_call 84; refine (floorDiv_any n d _ (by omega) (by omega)).mono ?_; rintro e w1 ⟨rfl, rfl⟩; rw [hqq.out])
    go_ret
    exact ⟨ret_int e.out, rfl⟩

set_option maxHeartbeats 1000000 in
theorem l02Near_any (n d : Int) (w : World) (hn : -1000000000000000 ≤ n ∧ n ≤ 1000000000000000) (hd : 1 ≤ d ∧ d ≤ 1000000000) :
    Calls Try.prog 79 #[.int .i64 n, .int .i64 d] w fun e w' => e = .returned (.int .i64 (near n d)) ∧ w = w' := by
  have q1 : IntKind.i64.wrap (2 * n) = 2 * n := IntWalk.i64_in _ (by omega)
  have q2 : IntKind.i64.wrap (2 * n + d) = 2 * n + d := IntWalk.i64_in _ (by omega)
  have q3 : IntKind.i64.wrap (2 * d) = 2 * d := IntWalk.i64_in _ (by omega)
  go_enter Try.func79, Try.ntmps79
  go_wp2_with (go_at_call 81; refine (l02Down_any (2 * n + d) (2 * d) _ (by omega) (by omega)).mono ?_; rintro e w1 ⟨rfl, rfl⟩)
  go_ret
  exact ⟨rfl, rfl⟩
end Go.Proofs.Ytiodlbgfgeimoaa
