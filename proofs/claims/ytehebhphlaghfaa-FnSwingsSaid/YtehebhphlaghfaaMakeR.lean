/-
  Contracts of a ratio of two numbers, with its code.
-/
import Derived.Test.YtehebhphlaghfaaMake
namespace Go.Proofs.Ytehebhphlaghfaa
open Go.RowKit
set_option linter.unusedSimpArgs false
set_option linter.unusedVariables false

set_option maxHeartbeats 2000000 in
theorem makeRatio_any (n d : Int) (w : World) (hn : -1000000000000000 ≤ n ∧ n ≤ 1000000000000000) (hd : -1000000000000000 ≤ d ∧ d ≤ 1000000000000000) :
    Calls Try.prog 76 #[.int .i64 n, .int .i64 d] w fun e w' => e = .returned (.tuple #[.agg #[.int .i64 (mkN n d), .int .i64 (mkD n d)], .int .i64 (mkC n d)]) ∧ Ext w w' := by
  by_cases h0 : d = 0
  · have e1 := Lib.hid (show 0 = mkN n d by simp [mkN, h0])
    have e2 := Lib.hid (show 0 = mkD n d by simp [mkD, h0])
    have e3 := Lib.hid (show 6 = mkC n d by simp [mkC, h0])
    have f0 : (d == 0) = true := by simpa using h0
    clear h0
    go_enter Try.func76, Try.ntmps76
    go_wp2
    exact bodyPost_ret (v := .tuple #[.agg #[.int .i64 0, .int .i64 0], .int .i64 6]) (by simp [results, Try.results76, go_sem, *]) rfl ⟨rt2 e1.out e2.out e3.out, by (repeat (first | refine Ext.setCell ?_ (by simp; try omega) _ | refine Ext.alloc ?_ _)); exact Ext.refl _⟩
  · have f0 : (d == 0) = false := by simpa using h0
    have H := Lib.hid h0
    cases ok : redOk n d
    · have e1 := Lib.hid (show 0 = mkN n d by simp [mkN, redN, h0, ok])
      have e2 := Lib.hid (show 0 = mkD n d by simp [mkD, redD, h0, ok])
      have e3 := Lib.hid (show 2 = mkC n d by simp [mkC, h0, ok])
      go_enter Try.func76, Try.ntmps76
      go_wp2_with (go_at_call 92; refine (reduced_any n d _ hn hd h0).mono ?_; rintro e w1 ⟨rfl, x0⟩; obtain ⟨xc, xf, xs⟩ := x0.cells; have hlx := Nat.lt_of_lt_of_le (lt_a w _) x0.size)
      exact bodyPost_ret (v := .tuple #[.agg #[.int .i64 0, .int .i64 0], .int .i64 2]) (by simp [results, Try.results76, go_sem, *]) rfl ⟨rt2 e1.out e2.out e3.out, by (repeat (first | refine Ext.setCell ?_ (by simp; try omega) _ | refine Ext.alloc ?_ _)); exact ((Ext.refl _).alloc _).trans x0⟩
    · have e1 := Lib.hid (show redN n d = mkN n d by simp [mkN, h0])
      have e2 := Lib.hid (show redD n d = mkD n d by simp [mkD, h0])
      have e3 := Lib.hid (show 0 = mkC n d by simp [mkC, h0, ok])
      go_enter Try.func76, Try.ntmps76
      go_wp2_with (go_at_call 92; refine (reduced_any n d _ hn hd h0).mono ?_; rintro e w1 ⟨rfl, x0⟩; obtain ⟨xc, xf, xs⟩ := x0.cells; have hlx := Nat.lt_of_lt_of_le (lt_a w _) x0.size)
      exact bodyPost_ret (v := .tuple #[.agg #[.int .i64 (redN n d), .int .i64 (redD n d)], .int .i64 0]) (by simp [results, Try.results76, go_sem, *]) rfl ⟨rt2 e1.out e2.out e3.out, by (repeat (first | refine Ext.setCell ?_ (by simp; try omega) _ | refine Ext.alloc ?_ _)); exact ((Ext.refl _).alloc _).trans x0⟩

set_option maxHeartbeats 1000000 in
theorem l02Code_yes (a b : Int) (w : World) :
    Calls Try.prog 74 #[.agg #[.int .i64 a, .int .i64 b], .bool true] w fun e w' => e = .returned (.tuple #[.agg #[.int .i64 a, .int .i64 b], .int .i64 0]) ∧ Ext w w' := by
  go_enter Try.func74, Try.ntmps74
  go_wp2
  exact bodyPost_ret (v := .tuple #[.agg #[.int .i64 a, .int .i64 b], .int .i64 0]) (by simp [results, Try.results74, go_sem, *]) rfl ⟨rfl, by (repeat (first | refine Ext.setCell ?_ (by simp; try omega) _ | refine Ext.alloc ?_ _)); exact Ext.refl _⟩
set_option maxHeartbeats 1000000 in
theorem l02Code_no (a b : Int) (w : World) :
    Calls Try.prog 74 #[.agg #[.int .i64 a, .int .i64 b], .bool false] w fun e w' => e = .returned (.tuple #[.agg #[.int .i64 0, .int .i64 0], .int .i64 2]) ∧ Ext w w' := by
  go_enter Try.func74, Try.ntmps74
  go_wp2
  exact bodyPost_ret (v := .tuple #[.agg #[.int .i64 0, .int .i64 0], .int .i64 2]) (by simp [results, Try.results74, go_sem, *]) rfl ⟨rfl, by (repeat (first | refine Ext.setCell ?_ (by simp; try omega) _ | refine Ext.alloc ?_ _)); exact Ext.refl _⟩
/-- What the reference makes of two numbers, the second not 0. -/
theorem l02Code_any (n d : Int) (w : World) (h0 : d ≠ 0) :
    Calls Try.prog 74 #[.agg #[.int .i64 (redN n d), .int .i64 (redD n d)], .bool (redOk n d)] w fun e w' => e = .returned (.tuple #[.agg #[.int .i64 (mkN n d), .int .i64 (mkD n d)], .int .i64 (mkC n d)]) ∧ Ext w w' := by
  cases ok : redOk n d
  · have a : redN n d = 0 := by simp [redN, ok]
    have b : redD n d = 0 := by simp [redD, ok]
    have e1 : mkN n d = 0 := by simp [mkN, a]
    have e2 : mkD n d = 0 := by simp [mkD, b]
    have e3 : mkC n d = 2 := by simp [mkC, h0, ok]
    rw [e1, e2, e3, a, b]
    exact l02Code_no 0 0 w
  · have e1 : mkN n d = redN n d := by simp [mkN, h0]
    have e2 : mkD n d = redD n d := by simp [mkD, h0]
    have e3 : mkC n d = 0 := by simp [mkC, h0, ok]
    rw [e1, e2, e3]
    exact l02Code_yes _ _ w

set_option maxHeartbeats 400000 in
theorem eqRatio_same (a b : Int) (w : World) : Calls Try.prog 41 #[.agg #[.int .i64 a, .int .i64 b], .agg #[.int .i64 a, .int .i64 b]] w fun e w' => e = .returned (.bool true) ∧ Ext w w' := by
  go_enter Try.func41, Try.ntmps41
  go_wp2
  go_ret
  exact ⟨rfl, (((Ext.refl _).alloc _).alloc _)⟩

end Go.Proofs.Ytehebhphlaghfaa
