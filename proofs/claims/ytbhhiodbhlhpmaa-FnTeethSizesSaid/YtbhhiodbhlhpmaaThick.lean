/-
  Contracts of the thickness of a tooth, and the walk of its law.
-/
import Derived.Test.YtbhhiodbhlhpmaaProf
import Derived.Test.YtbhhiodbhlhpmaaPi
namespace Go.Proofs.Ytbhhiodbhlhpmaa
open Go.RowKit
set_option linter.unusedSimpArgs false
set_option linter.unusedVariables false

def thL (t m a s c h b : Int) : Int := if vProf t m a s c h = false then 0 else if inB b 0 (10 * m) = false then 0 else (10 * m * 103993 / 33102 - b) / 2
def thH (t m a s c h b : Int) : Int := if vProf t m a s c h = false then 0 else if inB b 0 (10 * m) = false then 0 else -(-(-(-(10 * m * 104348) / 33215) - b) / 2)
def thC (t m a s c h b : Int) : Int := if vProf t m a s c h = false then 1 else if inB b 0 (10 * m) = false then 2 else 0
theorem pi_in {n : Int} (hn : 0 ≤ n ∧ n ≤ 1000000000) : piLo n = n * 103993 / 33102 ∧ piHi n = -(-(n * 104348) / 33215) ∧ piC n = 0 := by
  have h : inB n 0 1000000000 = true := inB_iff.2 hn
  simp [piLo, piHi, piC, h]

set_option maxHeartbeats 1000000 in
theorem implThickness_any (t m a s c h b : Int) (w : World) :
    Calls Try.prog 34 #[.agg #[.int .i64 t, .int .i64 m, .int .i64 a, .int .i64 s, .int .i64 c, .int .i64 h], .int .i64 b] w fun e w' => e = .returned (.tuple #[.int .i64 (thL t m a s c h b), .int .i64 (thH t m a s c h b), .int .i64 (thC t m a s c h b)]) ∧ Ext w w' := by
  cases h1 : vProf t m a s c h
  · have e1 := Lib.hid (show 0 = thL t m a s c h b by simp [thL, h1])
    have e2 := Lib.hid (show 0 = thH t m a s c h b by simp [thH, h1])
    have e3 := Lib.hid (show 1 = thC t m a s c h b by simp [thC, h1])
    go_enter Try.func34, Try.ntmps34
    go_wp2_with fail
    have x0 := Ext.refl (w.alloc (Obj.cells #[.int .i64 t, .int .i64 m, .int .i64 a, .int .i64 s, .int .i64 c, .int .i64 h] 35))
    go_wp2_with (first | (go_at_call 25; refine (implValidProfile_any t m a s c h _).mono ?_; rintro e w1 ⟨rfl, x1⟩; (try clear xc xf xs); (first | replace x0 := x0.trans x1 | replace x0 := (x0.alloc _).trans x1 | replace x0 := (x0.drew).trans x1 | replace x0 := ((x0.alloc _).alloc _).trans x1); clear x1; obtain ⟨xc, xf, xs⟩ := x0.cells) | (go_at_call 51; refine (within_any _ _ _ _).mono ?_; rintro e w1 ⟨rfl, rfl⟩) | (go_at_call 54; refine (floorDiv_any _ _ _ (by omega) (by omega)).mono ?_; rintro e w1 ⟨rfl, rfl⟩) | (go_at_call 55; refine (ceilDiv_any _ _ _ (by omega) (by omega)).mono ?_; rintro e w1 ⟨rfl, rfl⟩))
    go_ret3
    exact ⟨ret3 e1.out (by have := e2.out; omega) e3.out, ((Ext.refl _).alloc _).trans x0⟩
  · have hm := (vProf_iff.1 h1).bm
    cases h2 : inB b 0 (10 * m)
    · have e1 := Lib.hid (show 0 = thL t m a s c h b by simp [thL, h1, h2])
      have e2 := Lib.hid (show 0 = thH t m a s c h b by simp [thH, h1, h2])
      have e3 := Lib.hid (show 2 = thC t m a s c h b by simp [thC, h1, h2])
      go_enter Try.func34, Try.ntmps34
      go_wp2_with fail
      have x0 := Ext.refl (w.alloc (Obj.cells #[.int .i64 t, .int .i64 m, .int .i64 a, .int .i64 s, .int .i64 c, .int .i64 h] 35))
      go_wp2_with (first | (go_at_call 25; refine (implValidProfile_any t m a s c h _).mono ?_; rintro e w1 ⟨rfl, x1⟩; (try clear xc xf xs); (first | replace x0 := x0.trans x1 | replace x0 := (x0.alloc _).trans x1 | replace x0 := (x0.drew).trans x1 | replace x0 := ((x0.alloc _).alloc _).trans x1); clear x1; obtain ⟨xc, xf, xs⟩ := x0.cells) | (go_at_call 51; refine (within_any _ _ _ _).mono ?_; rintro e w1 ⟨rfl, rfl⟩) | (go_at_call 54; refine (floorDiv_any _ _ _ (by omega) (by omega)).mono ?_; rintro e w1 ⟨rfl, rfl⟩) | (go_at_call 55; refine (ceilDiv_any _ _ _ (by omega) (by omega)).mono ?_; rintro e w1 ⟨rfl, rfl⟩))
      go_ret3
      exact ⟨ret3 e1.out (by have := e2.out; omega) e3.out, ((Ext.refl _).alloc _).trans x0⟩
    · have hb := inB_iff.1 h2
      have e1 := Lib.hid (show (10 * m * 103993 / 33102 - b) / 2 = thL t m a s c h b by simp [thL, h1, h2])
      have e2 := Lib.hid (show -(-(-(-(10 * m * 104348) / 33215) - b) / 2) = thH t m a s c h b by simp [thH, h1, h2])
      have e3 := Lib.hid (show 0 = thC t m a s c h b by simp [thC, h1, h2])
      go_enter Try.func34, Try.ntmps34
      go_wp2_with fail
      have x0 := Ext.refl (w.alloc (Obj.cells #[.int .i64 t, .int .i64 m, .int .i64 a, .int .i64 s, .int .i64 c, .int .i64 h] 35))
      go_wp2_with (first | (go_at_call 25; refine (implValidProfile_any t m a s c h _).mono ?_; rintro e w1 ⟨rfl, x1⟩; (try clear xc xf xs); (first | replace x0 := x0.trans x1 | replace x0 := (x0.alloc _).trans x1 | replace x0 := (x0.drew).trans x1 | replace x0 := ((x0.alloc _).alloc _).trans x1); clear x1; obtain ⟨xc, xf, xs⟩ := x0.cells) | (go_at_call 51; refine (within_any _ _ _ _).mono ?_; rintro e w1 ⟨rfl, rfl⟩) | (go_at_call 54; refine (floorDiv_any _ _ _ (by omega) (by omega)).mono ?_; rintro e w1 ⟨rfl, rfl⟩) | (go_at_call 55; refine (ceilDiv_any _ _ _ (by omega) (by omega)).mono ?_; rintro e w1 ⟨rfl, rfl⟩) | (go_at_call 22; refine (implPiBounds_any _ _).mono ?_; rw [(pi_in (n := 10 * m) (by omega)).1, (pi_in (n := 10 * m) (by omega)).2.1, (pi_in (n := 10 * m) (by omega)).2.2]; rintro e w1 ⟨rfl, rfl⟩))
      go_ret3
      exact ⟨ret3 e1.out (by have := e2.out; omega) e3.out, ((Ext.refl _).alloc _).trans x0⟩

set_option maxHeartbeats 1000000 in
theorem specThickness_any (t m a s c h b : Int) (w : World) :
    Calls Try.prog 33 #[.agg #[.int .i64 t, .int .i64 m, .int .i64 a, .int .i64 s, .int .i64 c, .int .i64 h], .int .i64 b] w fun e w' => e = .returned (.tuple #[.int .i64 (thL t m a s c h b), .int .i64 (thH t m a s c h b), .int .i64 (thC t m a s c h b)]) ∧ Ext w w' := by
  cases h1 : vProf t m a s c h
  · have e1 := Lib.hid (show 0 = thL t m a s c h b by simp [thL, h1])
    have e2 := Lib.hid (show 0 = thH t m a s c h b by simp [thH, h1])
    have e3 := Lib.hid (show 1 = thC t m a s c h b by simp [thC, h1])
    go_enter Try.func33, Try.ntmps33
    go_wp2_with fail
    have x0 := Ext.refl (w.alloc (Obj.cells #[.int .i64 t, .int .i64 m, .int .i64 a, .int .i64 s, .int .i64 c, .int .i64 h] 35))
    go_wp2_with (first | (go_at_call 56; refine (l10Ok_any t m a s c h _).mono ?_; rintro e w1 ⟨rfl, x1⟩; (try clear xc xf xs); (first | replace x0 := x0.trans x1 | replace x0 := (x0.alloc _).trans x1 | replace x0 := (x0.drew).trans x1 | replace x0 := ((x0.alloc _).alloc _).trans x1); clear x1; obtain ⟨xc, xf, xs⟩ := x0.cells) | (go_at_call 52; refine (l00In_any _ _ _ _).mono ?_; rintro e w1 ⟨rfl, rfl⟩) | (go_at_call 65; refine (l02Down_any _ _ _ (by omega) (by omega)).mono ?_; rintro e w1 ⟨rfl, rfl⟩))
    go_ret3
    exact ⟨ret3 e1.out (by have := e2.out; omega) e3.out, ((Ext.refl _).alloc _).trans x0⟩
  · have hm := (vProf_iff.1 h1).bm
    cases h2 : inB b 0 (10 * m)
    · have e1 := Lib.hid (show 0 = thL t m a s c h b by simp [thL, h1, h2])
      have e2 := Lib.hid (show 0 = thH t m a s c h b by simp [thH, h1, h2])
      have e3 := Lib.hid (show 2 = thC t m a s c h b by simp [thC, h1, h2])
      go_enter Try.func33, Try.ntmps33
      go_wp2_with fail
      have x0 := Ext.refl (w.alloc (Obj.cells #[.int .i64 t, .int .i64 m, .int .i64 a, .int .i64 s, .int .i64 c, .int .i64 h] 35))
      go_wp2_with (first | (go_at_call 56; refine (l10Ok_any t m a s c h _).mono ?_; rintro e w1 ⟨rfl, x1⟩; (try clear xc xf xs); (first | replace x0 := x0.trans x1 | replace x0 := (x0.alloc _).trans x1 | replace x0 := (x0.drew).trans x1 | replace x0 := ((x0.alloc _).alloc _).trans x1); clear x1; obtain ⟨xc, xf, xs⟩ := x0.cells) | (go_at_call 52; refine (l00In_any _ _ _ _).mono ?_; rintro e w1 ⟨rfl, rfl⟩) | (go_at_call 65; refine (l02Down_any _ _ _ (by omega) (by omega)).mono ?_; rintro e w1 ⟨rfl, rfl⟩))
      go_ret3
      exact ⟨ret3 e1.out (by have := e2.out; omega) e3.out, ((Ext.refl _).alloc _).trans x0⟩
    · have hb := inB_iff.1 h2
      have e1 := Lib.hid (show (10 * m * 103993 / 33102 - b) / 2 = thL t m a s c h b by simp [thL, h1, h2])
      have e2 := Lib.hid (show -(-(-(-(10 * m * 104348) / 33215) - b) / 2) = thH t m a s c h b by simp [thH, h1, h2])
      have e3 := Lib.hid (show 0 = thC t m a s c h b by simp [thC, h1, h2])
      go_enter Try.func33, Try.ntmps33
      go_wp2_with fail
      have x0 := Ext.refl (w.alloc (Obj.cells #[.int .i64 t, .int .i64 m, .int .i64 a, .int .i64 s, .int .i64 c, .int .i64 h] 35))
      go_wp2_with (first | (go_at_call 56; refine (l10Ok_any t m a s c h _).mono ?_; rintro e w1 ⟨rfl, x1⟩; (try clear xc xf xs); (first | replace x0 := x0.trans x1 | replace x0 := (x0.alloc _).trans x1 | replace x0 := (x0.drew).trans x1 | replace x0 := ((x0.alloc _).alloc _).trans x1); clear x1; obtain ⟨xc, xf, xs⟩ := x0.cells) | (go_at_call 52; refine (l00In_any _ _ _ _).mono ?_; rintro e w1 ⟨rfl, rfl⟩) | (go_at_call 65; refine (l02Down_any _ _ _ (by omega) (by omega)).mono ?_; rintro e w1 ⟨rfl, rfl⟩) | (go_at_call 53; refine (l10Pi_any _ _ (by omega)).mono ?_; rintro e w1 ⟨rfl, rfl⟩))
      go_ret3
      exact ⟨ret3 e1.out (by have := e2.out; omega) e3.out, ((Ext.refl _).alloc _).trans x0⟩

set_option maxHeartbeats 1000000 in
theorem thickness_walk (t m a s c h b : Int) (w : World) (b0 : -9223372036854775808 ≤ t ∧ t ≤ 9223372036854775807) (b1 : -9223372036854775808 ≤ m ∧ m ≤ 9223372036854775807) (b2 : -9223372036854775808 ≤ a ∧ a ≤ 9223372036854775807) (b3 : -9223372036854775808 ≤ s ∧ s ≤ 9223372036854775807) (b4 : -9223372036854775808 ≤ c ∧ c ≤ 9223372036854775807) (b5 : -9223372036854775808 ≤ h ∧ h ≤ 9223372036854775807) (b6 : -9223372036854775808 ≤ b ∧ b ≤ 9223372036854775807) :
    Calls Try.prog 9 #[.agg #[.int .i64 t, .int .i64 m, .int .i64 a, .int .i64 s, .int .i64 c, .int .i64 h], .int .i64 b] w fun e w' => e = .returned (.bool true) ∧ Ext w w' := by
  clear b0 b1 b2 b3 b4 b5 b6
  go_enter Try.func9, Try.ntmps9
  go_wp2_with fail
  have x0 := Ext.refl (w.alloc (Obj.cells #[.int .i64 t, .int .i64 m, .int .i64 a, .int .i64 s, .int .i64 c, .int .i64 h] 32))
  go_wp2_with (first | (go_at_call 24; refine (toProfile_any t m a s c h _).mono ?_; rintro e w1 ⟨rfl, x1⟩; (try clear xc xf xs); (first | replace x0 := x0.trans x1 | replace x0 := (x0.alloc _).trans x1 | replace x0 := (x0.drew).trans x1 | replace x0 := ((x0.alloc _).alloc _).trans x1); clear x1; obtain ⟨xc, xf, xs⟩ := x0.cells) | (go_at_call 33; refine (specThickness_any t m a s c h b _).mono ?_; rintro e w1 ⟨rfl, x1⟩; (try clear xc xf xs); (first | replace x0 := x0.trans x1 | replace x0 := (x0.alloc _).trans x1 | replace x0 := (x0.drew).trans x1 | replace x0 := ((x0.alloc _).alloc _).trans x1); clear x1; obtain ⟨xc, xf, xs⟩ := x0.cells) | (go_at_call 34; refine (implThickness_any t m a s c h b _).mono ?_; rintro e w1 ⟨rfl, x1⟩; (try clear xc xf xs); (first | replace x0 := x0.trans x1 | replace x0 := (x0.alloc _).trans x1 | replace x0 := (x0.drew).trans x1 | replace x0 := ((x0.alloc _).alloc _).trans x1); clear x1; obtain ⟨xc, xf, xs⟩ := x0.cells))
  go_ret
  exact ⟨rfl, ((Ext.refl _).alloc _).trans x0⟩

end Go.Proofs.Ytbhhiodbhlhpmaa
