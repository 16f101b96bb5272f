/-
  Contracts of pairs of wheels: valid pairs, the module that fits.
-/
import Derived.Test.YtgkpganbepbjnaaNum
namespace Go.Proofs.Ytgkpganbepbjnaa
open Go.RowKit
set_option linter.unusedSimpArgs false
set_option linter.unusedVariables false

def vPair (a b : Int) : Bool := inB a 6 240 && inB b 6 240
theorem vPair_iff {a b : Int} : vPair a b = true ↔ (6 ≤ a ∧ a ≤ 240) ∧ (6 ≤ b ∧ b ≤ 240) := by simp [vPair, inB_iff]

set_option maxHeartbeats 400000 in
theorem toothed_any (n : Int) (w : World) : Calls Try.prog 117 #[.int .i64 n] w fun e w' => e = .returned (.bool (inB n 6 240)) ∧ w = w' := by
  go_enter Try.func117, Try.ntmps117
  go_wp2_with (go_at_call 55; refine (within_any _ _ _ _).mono ?_; rintro e w1 ⟨rfl, rfl⟩)
  go_ret
  exact ⟨rfl, rfl⟩

set_option maxHeartbeats 400000 in
theorem l05Teeth_any (n : Int) (w : World) : Calls Try.prog 116 #[.int .i64 n] w fun e w' => e = .returned (.bool (inB n 6 240)) ∧ w = w' := by
  go_enter Try.func116, Try.ntmps116
  go_wp2_with (go_at_call 54; refine (l00In_any _ _ _ _).mono ?_; rintro e w1 ⟨rfl, rfl⟩)
  go_ret
  exact ⟨rfl, rfl⟩

set_option maxHeartbeats 400000 in
theorem implValidPair_any (a b : Int) (w : World) : Calls Try.prog 99 #[.agg #[.int .i64 a, .int .i64 b]] w fun e w' => e = .returned (.bool (vPair a b)) ∧ Ext w w' := by
  cases h1 : inB a 6 240
  · have e := Lib.hid (show false = vPair a b by simp [vPair, h1])
    go_enter Try.func99, Try.ntmps99
    go_wp2_with (go_at_call 117; refine (toothed_any _ _).mono ?_; rintro e w1 ⟨rfl, rfl⟩)
    go_ret
    exact ⟨ret_bool e.out, (Ext.refl _).alloc _⟩
  · have e := Lib.hid (show inB b 6 240 = vPair a b by simp [vPair, h1])
    go_enter Try.func99, Try.ntmps99
    go_wp2_with (go_at_call 117; refine (toothed_any _ _).mono ?_; rintro e w1 ⟨rfl, rfl⟩)
    go_ret
    exact ⟨ret_bool e.out, (Ext.refl _).alloc _⟩

set_option maxHeartbeats 400000 in
theorem l05Pair_any (a b : Int) (w : World) : Calls Try.prog 98 #[.agg #[.int .i64 a, .int .i64 b]] w fun e w' => e = .returned (.bool (vPair a b)) ∧ Ext w w' := by
  cases h1 : inB a 6 240
  · have e := Lib.hid (show false = vPair a b by simp [vPair, h1])
    go_enter Try.func98, Try.ntmps98
    go_wp2_with (go_at_call 116; refine (l05Teeth_any _ _).mono ?_; rintro e w1 ⟨rfl, rfl⟩)
    go_ret
    exact ⟨ret_bool e.out, (Ext.refl _).alloc _⟩
  · have e := Lib.hid (show inB b 6 240 = vPair a b by simp [vPair, h1])
    go_enter Try.func98, Try.ntmps98
    go_wp2_with (go_at_call 116; refine (l05Teeth_any _ _).mono ?_; rintro e w1 ⟨rfl, rfl⟩)
    go_ret
    exact ⟨ret_bool e.out, (Ext.refl _).alloc _⟩

set_option maxHeartbeats 400000 in
theorem toPair_any (a b : Int) (w : World) :
    Calls Try.prog 66 #[.agg #[.int .i64 a, .int .i64 b]] w fun e w' => e = .returned (.agg #[.int .i64 a, .int .i64 b]) ∧ Ext w w' := by
  go_enter Try.func66, Try.ntmps66
  go_wp2
  exact bodyPost_ret (v := .agg #[.int .i64 a, .int .i64 b]) (by simp [results, Try.results66, go_sem]) rfl ⟨rfl, (((Ext.refl _).alloc _).alloc _).alloc _⟩


end Go.Proofs.Ytgkpganbepbjnaa
