/-
  Contracts of the range tests and of the divisions.
-/
import Derived.Test.YtgkpganbepbjnaaBase
namespace Go.Proofs.Ytgkpganbepbjnaa
open Go.RowKit
set_option linter.unusedSimpArgs false
set_option linter.unusedVariables false

set_option maxHeartbeats 400000 in
theorem within_any (n lo hi : Int) (w : World) :
    Calls Try.prog 55 #[.int .i64 n, .int .i64 lo, .int .i64 hi] w fun e w' => e = .returned (.bool (inB n lo hi)) ∧ w = w' := by
  by_cases h1 : lo ≤ n
  · by_cases h2 : n ≤ hi
    · have e : inB n lo hi = true := by simp [inB, h1, h2]
      go_enter Try.func55, Try.ntmps55
      go_wp2
      go_ret
      exact ⟨by simp [e], rfl⟩
    · have e : inB n lo hi = false := by simp [inB, h2]
      go_enter Try.func55, Try.ntmps55
      go_wp2
      go_ret
      exact ⟨by simp [e], rfl⟩
  · have e : inB n lo hi = false := by simp [inB, h1]
    go_enter Try.func55, Try.ntmps55
    go_wp2
    go_ret
    exact ⟨by simp [e], rfl⟩

set_option maxHeartbeats 400000 in
theorem l00In_any (n lo hi : Int) (w : World) :
    Calls Try.prog 54 #[.int .i64 n, .int .i64 lo, .int .i64 hi] w fun e w' => e = .returned (.bool (inB n lo hi)) ∧ w = w' := by
  by_cases h1 : lo ≤ n
  · by_cases h2 : n ≤ hi
    · have e : inB n lo hi = true := by simp [inB, h1, h2]
      go_enter Try.func54, Try.ntmps54
      go_wp2
      go_ret
      exact ⟨by simp [e], rfl⟩
    · have e : inB n lo hi = false := by simp [inB, h2]
      go_enter Try.func54, Try.ntmps54
      go_wp2
      go_ret
      exact ⟨by simp [e], rfl⟩
  · have e : inB n lo hi = false := by simp [inB, h1]
    go_enter Try.func54, Try.ntmps54
    go_wp2
    go_ret
    exact ⟨by simp [e], rfl⟩

set_option maxHeartbeats 400000 in
theorem floorDiv_any (n d : Int) (w : World) (hn : -9223372036854775807 ≤ n ∧ n ≤ 9223372036854775807) (hd : 1 ≤ d ∧ d ≤ 9223372036854775807) :
    Calls Try.prog 92 #[.int .i64 n, .int .i64 d] w fun e w' => e = .returned (.int .i64 (n / d)) ∧ w = w' := by
  have hz : (d == 0) = false := by simp; omega
  obtain ⟨b1, b2⟩ := tdiv_in n d hd.1 hn.1 hn.2
  obtain ⟨b3, b4⟩ := tmod_in n d hd.1 hd.2
  by_cases h : n.tmod d < 0
  · have e := Lib.hid (fd_neg n d hd.1 h)
    go_enter Try.func92, Try.ntmps92
    go_wp2
    go_ret
    exact ⟨ret_int e.out, rfl⟩
  · have e := Lib.hid (fd_pos n d hd.1 h)
    go_enter Try.func92, Try.ntmps92
    go_wp2
    go_ret
    exact ⟨ret_int e.out, rfl⟩

set_option maxHeartbeats 400000 in
theorem l02Down_any (n d : Int) (w : World) (hn : -9223372036854775807 ≤ n ∧ n ≤ 9223372036854775807) (hd : 1 ≤ d ∧ d ≤ 9223372036854775807) :
    Calls Try.prog 118 #[.int .i64 n, .int .i64 d] w fun e w' => e = .returned (.int .i64 (n / d)) ∧ w = w' := by
  have hz : (d == 0) = false := by simp; omega
  obtain ⟨b1, b2⟩ := tdiv_in n d hd.1 hn.1 hn.2
  obtain ⟨b3, b4⟩ := tmod_in n d hd.1 hd.2
  by_cases h : n.tmod d < 0
  · have e := Lib.hid (fd_neg n d hd.1 h)
    go_enter Try.func118, Try.ntmps118
    go_wp2
    go_ret
    exact ⟨ret_int e.out, rfl⟩
  · have e := Lib.hid (fd_pos n d hd.1 h)
    go_enter Try.func118, Try.ntmps118
    go_wp2
    go_ret
    exact ⟨ret_int e.out, rfl⟩

set_option maxHeartbeats 400000 in
theorem ceilDiv_any (n d : Int) (w : World) (hn : -9223372036854775807 ≤ n ∧ n ≤ 9223372036854775807) (hd : 1 ≤ d ∧ d ≤ 9223372036854775807) :
    Calls Try.prog 56 #[.int .i64 n, .int .i64 d] w fun e w' => e = .returned (.int .i64 (-(-n / d))) ∧ w = w' := by
  have hb := ediv_in (-n) d hd.1 (by omega) (by omega)
  go_enter Try.func56, Try.ntmps56
  go_wp2_with (go_at_call 92; refine (floorDiv_any _ _ _ (by omega) hd).mono ?_; rintro e w1 ⟨rfl, rfl⟩)
  go_ret
  exact ⟨rfl, rfl⟩
end Go.Proofs.Ytgkpganbepbjnaa
