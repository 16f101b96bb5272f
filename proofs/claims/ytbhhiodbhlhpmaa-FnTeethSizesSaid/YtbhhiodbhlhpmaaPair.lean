/-
  Contracts of pairs of wheels: valid pairs, the module that fits.
-/
import Derived.Test.YtbhhiodbhlhpmaaNum
namespace Go.Proofs.Ytbhhiodbhlhpmaa
open Go.RowKit
set_option linter.unusedSimpArgs false
set_option linter.unusedVariables false

def vPair (a b : Int) : Bool := inB a 6 240 && inB b 6 240
theorem vPair_iff {a b : Int} : vPair a b = true ↔ (6 ≤ a ∧ a ≤ 240) ∧ (6 ≤ b ∧ b ≤ 240) := by simp [vPair, inB_iff]

set_option maxHeartbeats 400000 in
theorem toothed_any (n : Int) (w : World) : Calls Try.prog 57 #[.int .i64 n] w fun e w' => e = .returned (.bool (inB n 6 240)) ∧ w = w' := by
  go_enter Try.func57, Try.ntmps57
  go_wp2_with (go_at_call 51; refine (within_any _ _ _ _).mono ?_; rintro e w1 ⟨rfl, rfl⟩)
  go_ret
  exact ⟨rfl, rfl⟩

set_option maxHeartbeats 400000 in
theorem l05Teeth_any (n : Int) (w : World) : Calls Try.prog 84 #[.int .i64 n] w fun e w' => e = .returned (.bool (inB n 6 240)) ∧ w = w' := by
  go_enter Try.func84, Try.ntmps84
  go_wp2_with (go_at_call 52; refine (l00In_any _ _ _ _).mono ?_; rintro e w1 ⟨rfl, rfl⟩)
  go_ret
  exact ⟨rfl, rfl⟩

set_option maxHeartbeats 400000 in
theorem implValidPair_any (a b : Int) (w : World) : Calls Try.prog 60 #[.agg #[.int .i64 a, .int .i64 b]] w fun e w' => e = .returned (.bool (vPair a b)) ∧ Ext w w' := by
  cases h1 : inB a 6 240
  · have e := Lib.hid (show false = vPair a b by simp [vPair, h1])
    go_enter Try.func60, Try.ntmps60
    go_wp2_with (go_at_call 57; refine (toothed_any _ _).mono ?_; rintro e w1 ⟨rfl, rfl⟩)
    go_ret
    exact ⟨ret_bool e.out, (Ext.refl _).alloc _⟩
  · have e := Lib.hid (show inB b 6 240 = vPair a b by simp [vPair, h1])
    go_enter Try.func60, Try.ntmps60
    go_wp2_with (go_at_call 57; refine (toothed_any _ _).mono ?_; rintro e w1 ⟨rfl, rfl⟩)
    go_ret
    exact ⟨ret_bool e.out, (Ext.refl _).alloc _⟩

set_option maxHeartbeats 400000 in
theorem l05Pair_any (a b : Int) (w : World) : Calls Try.prog 58 #[.agg #[.int .i64 a, .int .i64 b]] w fun e w' => e = .returned (.bool (vPair a b)) ∧ Ext w w' := by
  cases h1 : inB a 6 240
  · have e := Lib.hid (show false = vPair a b by simp [vPair, h1])
    go_enter Try.func58, Try.ntmps58
    go_wp2_with (go_at_call 84; refine (l05Teeth_any _ _).mono ?_; rintro e w1 ⟨rfl, rfl⟩)
    go_ret
    exact ⟨ret_bool e.out, (Ext.refl _).alloc _⟩
  · have e := Lib.hid (show inB b 6 240 = vPair a b by simp [vPair, h1])
    go_enter Try.func58, Try.ntmps58
    go_wp2_with (go_at_call 84; refine (l05Teeth_any _ _).mono ?_; rintro e w1 ⟨rfl, rfl⟩)
    go_ret
    exact ⟨ret_bool e.out, (Ext.refl _).alloc _⟩

set_option maxHeartbeats 400000 in
theorem toPair_any (a b : Int) (w : World) :
    Calls Try.prog 27 #[.agg #[.int .i64 a, .int .i64 b]] w fun e w' => e = .returned (.agg #[.int .i64 a, .int .i64 b]) ∧ Ext w w' := by
  go_enter Try.func27, Try.ntmps27
  go_wp2
  exact bodyPost_ret (v := .agg #[.int .i64 a, .int .i64 b]) (by simp [results, Try.results27, go_sem]) rfl ⟨rfl, (((Ext.refl _).alloc _).alloc _).alloc _⟩

set_option maxHeartbeats 400000 in
theorem l00Min_any (a b : Int) (w : World) : Calls Try.prog 59 #[.int .i64 a, .int .i64 b] w fun e w' => e = .returned (.int .i64 (min a b)) ∧ w = w' := by
  by_cases h : a < b
  · have e := Lib.hid (show a = min a b by omega)
    go_enter Try.func59, Try.ntmps59
    go_wp2
    go_ret
    exact ⟨ret_int e.out, rfl⟩
  · have e := Lib.hid (show b = min a b by omega)
    go_enter Try.func59, Try.ntmps59
    go_wp2
    go_ret
    exact ⟨ret_int e.out, rfl⟩

end Go.Proofs.Ytbhhiodbhlhpmaa
