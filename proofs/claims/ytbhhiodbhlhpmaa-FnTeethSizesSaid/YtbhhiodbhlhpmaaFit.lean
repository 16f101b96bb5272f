/-
  Contracts of the module that fits.
-/
import Derived.Test.YtbhhiodbhlhpmaaPair
namespace Go.Proofs.Ytbhhiodbhlhpmaa
open Go.RowKit
set_option linter.unusedSimpArgs false
set_option linter.unusedVariables false

def fitM (a b d : Int) : Int := if vPair a b = false then 0 else if inB d 1 1000000000 = false then 0 else if min 500 (d / (5 * (a + b))) < 1 then 0 else min 500 (d / (5 * (a + b)))
def fitC (a b d : Int) : Int := if vPair a b = false then 1 else if inB d 1 1000000000 = false then 2 else if min 500 (d / (5 * (a + b))) < 1 then 3 else 0

set_option maxHeartbeats 1000000 in
theorem implFitModule_any (a b d : Int) (w : World) : Calls Try.prog 28 #[.agg #[.int .i64 a, .int .i64 b], .int .i64 d] w fun e w' => e = .returned (.tuple #[.int .i64 (fitM a b d), .int .i64 (fitC a b d)]) ∧ Ext w w' := by
  cases h1 : vPair a b
  · have e1 := Lib.hid (show 0 = fitM a b d by simp [fitM, h1])
    have e2 := Lib.hid (show 1 = fitC a b d by simp [fitC, h1])
    go_enter Try.func28, Try.ntmps28
    go_wp2_with fail
    have x0 := Ext.refl (w.alloc (Obj.cells #[.int .i64 a, .int .i64 b] 42))
    go_wp2_with (first | (go_at_call 60; refine (implValidPair_any a b _).mono ?_; rintro e w1 ⟨rfl, x1⟩; (try clear xc xf xs); (first | replace x0 := x0.trans x1 | replace x0 := (x0.alloc _).trans x1 | replace x0 := (x0.drew).trans x1 | replace x0 := ((x0.alloc _).alloc _).trans x1); clear x1; obtain ⟨xc, xf, xs⟩ := x0.cells) | (go_at_call 51; refine (within_any _ _ _ _).mono ?_; rintro e w1 ⟨rfl, rfl⟩))
    go_ret2
    exact ⟨ret2 e1.out e2.out, ((Ext.refl _).alloc _).trans x0⟩
  · cases h2 : inB d 1 1000000000
    · have e1 := Lib.hid (show 0 = fitM a b d by simp [fitM, h1, h2])
      have e2 := Lib.hid (show 2 = fitC a b d by simp [fitC, h1, h2])
      go_enter Try.func28, Try.ntmps28
      go_wp2_with fail
      have x0 := Ext.refl (w.alloc (Obj.cells #[.int .i64 a, .int .i64 b] 42))
      go_wp2_with (first | (go_at_call 60; refine (implValidPair_any a b _).mono ?_; rintro e w1 ⟨rfl, x1⟩; (try clear xc xf xs); (first | replace x0 := x0.trans x1 | replace x0 := (x0.alloc _).trans x1 | replace x0 := (x0.drew).trans x1 | replace x0 := ((x0.alloc _).alloc _).trans x1); clear x1; obtain ⟨xc, xf, xs⟩ := x0.cells) | (go_at_call 51; refine (within_any _ _ _ _).mono ?_; rintro e w1 ⟨rfl, rfl⟩))
      go_ret2
      exact ⟨ret2 e1.out e2.out, ((Ext.refl _).alloc _).trans x0⟩
    · obtain ⟨c1, c2⟩ := vPair_iff.1 h1
      have c3 := inB_iff.1 h2
      have hq : 0 ≤ d / (5 * (a + b)) := Int.ediv_nonneg (by omega) (by omega)
      have hq2 : d / (5 * (a + b)) ≤ d := Int.ediv_le_self _ (by omega)
      by_cases h3 : d / (5 * (a + b)) < 1
      · have e1 := Lib.hid (show 0 = fitM a b d by unfold fitM; rw [h1, h2]; simp; omega)
        have e2 := Lib.hid (show 3 = fitC a b d by unfold fitC; rw [h1, h2]; simp; omega)
        go_enter Try.func28, Try.ntmps28
        go_wp2_with fail
        have x0 := Ext.refl (w.alloc (Obj.cells #[.int .i64 a, .int .i64 b] 42))
        go_wp2_with (first | (go_at_call 60; refine (implValidPair_any a b _).mono ?_; rintro e w1 ⟨rfl, x1⟩; (try clear xc xf xs); (first | replace x0 := x0.trans x1 | replace x0 := (x0.alloc _).trans x1 | replace x0 := (x0.drew).trans x1 | replace x0 := ((x0.alloc _).alloc _).trans x1); clear x1; obtain ⟨xc, xf, xs⟩ := x0.cells) | (go_at_call 51; refine (within_any _ _ _ _).mono ?_; rintro e w1 ⟨rfl, rfl⟩))
        go_ret2
        exact ⟨ret2 e1.out e2.out, ((Ext.refl _).alloc _).trans x0⟩
      · by_cases h4 : d / (5 * (a + b)) < 500
        · have e1 := Lib.hid (show d / (5 * (a + b)) = fitM a b d by unfold fitM; rw [h1, h2]; simp; omega)
          have e2 := Lib.hid (show 0 = fitC a b d by unfold fitC; rw [h1, h2]; simp; omega)
          go_enter Try.func28, Try.ntmps28
          go_wp2_with fail
          have x0 := Ext.refl (w.alloc (Obj.cells #[.int .i64 a, .int .i64 b] 42))
          go_wp2_with (first | (go_at_call 60; refine (implValidPair_any a b _).mono ?_; rintro e w1 ⟨rfl, x1⟩; (try clear xc xf xs); (first | replace x0 := x0.trans x1 | replace x0 := (x0.alloc _).trans x1 | replace x0 := (x0.drew).trans x1 | replace x0 := ((x0.alloc _).alloc _).trans x1); clear x1; obtain ⟨xc, xf, xs⟩ := x0.cells) | (go_at_call 51; refine (within_any _ _ _ _).mono ?_; rintro e w1 ⟨rfl, rfl⟩))
          go_ret2
          exact ⟨ret2 e1.out e2.out, ((Ext.refl _).alloc _).trans x0⟩
        · have e1 := Lib.hid (show 500 = fitM a b d by unfold fitM; rw [h1, h2]; simp; omega)
          have e2 := Lib.hid (show 0 = fitC a b d by unfold fitC; rw [h1, h2]; simp; omega)
          go_enter Try.func28, Try.ntmps28
          go_wp2_with fail
          have x0 := Ext.refl (w.alloc (Obj.cells #[.int .i64 a, .int .i64 b] 42))
          go_wp2_with (first | (go_at_call 60; refine (implValidPair_any a b _).mono ?_; rintro e w1 ⟨rfl, x1⟩; (try clear xc xf xs); (first | replace x0 := x0.trans x1 | replace x0 := (x0.alloc _).trans x1 | replace x0 := (x0.drew).trans x1 | replace x0 := ((x0.alloc _).alloc _).trans x1); clear x1; obtain ⟨xc, xf, xs⟩ := x0.cells) | (go_at_call 51; refine (within_any _ _ _ _).mono ?_; rintro e w1 ⟨rfl, rfl⟩))
          go_ret2
          exact ⟨ret2 e1.out e2.out, ((Ext.refl _).alloc _).trans x0⟩

set_option maxHeartbeats 1000000 in
theorem specFitModule_any (a b d : Int) (w : World) : Calls Try.prog 26 #[.agg #[.int .i64 a, .int .i64 b], .int .i64 d] w fun e w' => e = .returned (.tuple #[.int .i64 (fitM a b d), .int .i64 (fitC a b d)]) ∧ Ext w w' := by
  cases h1 : vPair a b
  · have e1 := Lib.hid (show 0 = fitM a b d by simp [fitM, h1])
    have e2 := Lib.hid (show 1 = fitC a b d by simp [fitC, h1])
    go_enter Try.func26, Try.ntmps26
    go_wp2_with fail
    have x0 := Ext.refl (w.alloc (Obj.cells #[.int .i64 a, .int .i64 b] 42))
    go_wp2_with (first | (go_at_call 58; refine (l05Pair_any a b _).mono ?_; rintro e w1 ⟨rfl, x1⟩; (try clear xc xf xs); (first | replace x0 := x0.trans x1 | replace x0 := (x0.alloc _).trans x1 | replace x0 := (x0.drew).trans x1 | replace x0 := ((x0.alloc _).alloc _).trans x1); clear x1; obtain ⟨xc, xf, xs⟩ := x0.cells) | (go_at_call 52; refine (l00In_any _ _ _ _).mono ?_; rintro e w1 ⟨rfl, rfl⟩) | (go_at_call 59; refine (l00Min_any _ _ _).mono ?_; rintro e w1 ⟨rfl, rfl⟩))
    go_ret2
    exact ⟨ret2 e1.out e2.out, ((Ext.refl _).alloc _).trans x0⟩
  · cases h2 : inB d 1 1000000000
    · have e1 := Lib.hid (show 0 = fitM a b d by simp [fitM, h1, h2])
      have e2 := Lib.hid (show 2 = fitC a b d by simp [fitC, h1, h2])
      go_enter Try.func26, Try.ntmps26
      go_wp2_with fail
      have x0 := Ext.refl (w.alloc (Obj.cells #[.int .i64 a, .int .i64 b] 42))
      go_wp2_with (first | (go_at_call 58; refine (l05Pair_any a b _).mono ?_; rintro e w1 ⟨rfl, x1⟩; (try clear xc xf xs); (first | replace x0 := x0.trans x1 | replace x0 := (x0.alloc _).trans x1 | replace x0 := (x0.drew).trans x1 | replace x0 := ((x0.alloc _).alloc _).trans x1); clear x1; obtain ⟨xc, xf, xs⟩ := x0.cells) | (go_at_call 52; refine (l00In_any _ _ _ _).mono ?_; rintro e w1 ⟨rfl, rfl⟩) | (go_at_call 59; refine (l00Min_any _ _ _).mono ?_; rintro e w1 ⟨rfl, rfl⟩))
      go_ret2
      exact ⟨ret2 e1.out e2.out, ((Ext.refl _).alloc _).trans x0⟩
    · obtain ⟨c1, c2⟩ := vPair_iff.1 h1
      have c3 := inB_iff.1 h2
      have hq : 0 ≤ d / (5 * (a + b)) := Int.ediv_nonneg (by omega) (by omega)
      have hq2 : d / (5 * (a + b)) ≤ d := Int.ediv_le_self _ (by omega)
      by_cases h3 : d / (5 * (a + b)) < 1
      · have e1 := Lib.hid (show 0 = fitM a b d by unfold fitM; rw [h1, h2]; simp; omega)
        have e2 := Lib.hid (show 3 = fitC a b d by unfold fitC; rw [h1, h2]; simp; omega)
        go_enter Try.func26, Try.ntmps26
        go_wp2_with fail
        have x0 := Ext.refl (w.alloc (Obj.cells #[.int .i64 a, .int .i64 b] 42))
        go_wp2_with (first | (go_at_call 58; refine (l05Pair_any a b _).mono ?_; rintro e w1 ⟨rfl, x1⟩; (try clear xc xf xs); (first | replace x0 := x0.trans x1 | replace x0 := (x0.alloc _).trans x1 | replace x0 := (x0.drew).trans x1 | replace x0 := ((x0.alloc _).alloc _).trans x1); clear x1; obtain ⟨xc, xf, xs⟩ := x0.cells) | (go_at_call 52; refine (l00In_any _ _ _ _).mono ?_; rintro e w1 ⟨rfl, rfl⟩) | (go_at_call 59; refine (l00Min_any _ _ _).mono ?_; rintro e w1 ⟨rfl, rfl⟩))
        go_ret2
        exact ⟨ret2 e1.out e2.out, ((Ext.refl _).alloc _).trans x0⟩
      · have e1 := Lib.hid (show min 500 (d / (5 * (a + b))) = fitM a b d by unfold fitM; rw [h1, h2]; simp; omega)
        have e2 := Lib.hid (show 0 = fitC a b d by unfold fitC; rw [h1, h2]; simp; omega)
        go_enter Try.func26, Try.ntmps26
        go_wp2_with fail
        have x0 := Ext.refl (w.alloc (Obj.cells #[.int .i64 a, .int .i64 b] 42))
        go_wp2_with (first | (go_at_call 58; refine (l05Pair_any a b _).mono ?_; rintro e w1 ⟨rfl, x1⟩; (try clear xc xf xs); (first | replace x0 := x0.trans x1 | replace x0 := (x0.alloc _).trans x1 | replace x0 := (x0.drew).trans x1 | replace x0 := ((x0.alloc _).alloc _).trans x1); clear x1; obtain ⟨xc, xf, xs⟩ := x0.cells) | (go_at_call 52; refine (l00In_any _ _ _ _).mono ?_; rintro e w1 ⟨rfl, rfl⟩) | (go_at_call 59; refine (l00Min_any _ _ _).mono ?_; rintro e w1 ⟨rfl, rfl⟩))
        go_ret2
        exact ⟨ret2 e1.out e2.out, ((Ext.refl _).alloc _).trans x0⟩

set_option maxHeartbeats 400000 in
theorem fitModule_walk (a b d : Int) (w : World) (b0 : -9223372036854775808 ≤ a ∧ a ≤ 9223372036854775807) (b1 : -9223372036854775808 ≤ b ∧ b ≤ 9223372036854775807) (b2 : -9223372036854775808 ≤ d ∧ d ≤ 9223372036854775807) :
    Calls Try.prog 6 #[.agg #[.int .i64 a, .int .i64 b], .int .i64 d] w fun e w' => e = .returned (.bool true) ∧ Ext w w' := by
  clear b0 b1 b2
  go_enter Try.func6, Try.ntmps6
  go_wp2_with fail
  have x0 := Ext.refl (w.alloc (Obj.cells #[.int .i64 a, .int .i64 b] 39))
  go_wp2_with (first | (go_at_call 27; refine (toPair_any a b _).mono ?_; rintro e w1 ⟨rfl, x1⟩; (try clear xc xf xs); (first | replace x0 := x0.trans x1 | replace x0 := (x0.alloc _).trans x1 | replace x0 := (x0.drew).trans x1 | replace x0 := ((x0.alloc _).alloc _).trans x1); clear x1; obtain ⟨xc, xf, xs⟩ := x0.cells) | (go_at_call 26; refine (specFitModule_any a b d _).mono ?_; rintro e w1 ⟨rfl, x1⟩; (try clear xc xf xs); (first | replace x0 := x0.trans x1 | replace x0 := (x0.alloc _).trans x1 | replace x0 := (x0.drew).trans x1 | replace x0 := ((x0.alloc _).alloc _).trans x1); clear x1; obtain ⟨xc, xf, xs⟩ := x0.cells) | (go_at_call 28; refine (implFitModule_any a b d _).mono ?_; rintro e w1 ⟨rfl, x1⟩; (try clear xc xf xs); (first | replace x0 := x0.trans x1 | replace x0 := (x0.alloc _).trans x1 | replace x0 := (x0.drew).trans x1 | replace x0 := ((x0.alloc _).alloc _).trans x1); clear x1; obtain ⟨xc, xf, xs⟩ := x0.cells))
  go_ret
  exact ⟨rfl, ((Ext.refl _).alloc _).trans x0⟩

end Go.Proofs.Ytbhhiodbhlhpmaa
