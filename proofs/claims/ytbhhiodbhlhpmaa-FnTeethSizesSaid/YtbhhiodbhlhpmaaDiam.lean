/-
  Contracts of the diameters of a profile, and the walk of their law.
-/
import Derived.Test.YtbhhiodbhlhpmaaProf
namespace Go.Proofs.Ytbhhiodbhlhpmaa
open Go.RowKit
set_option linter.unusedSimpArgs false
set_option linter.unusedVariables false

def diaP (t m a s c h : Int) : Int := if vProf t m a s c h = false then 0 else pitD t m
def diaO (t m a s c h : Int) : Int := if vProf t m a s c h = false then 0 else outD t m a
def diaR (t m a s c h : Int) : Int := if vProf t m a s c h = false then 0 else pitD t m - 2 * (a + 2) * m
def diaC (t m a s c h : Int) : Int := if vProf t m a s c h = false then 1 else 0
theorem add2_bd {m a : Int} (hm : 1 ≤ m ∧ m ≤ 500) (ha : 1 ≤ a ∧ a ≤ 20) : 6 ≤ 2 * (a + 2) * m ∧ 2 * (a + 2) * m ≤ 22000 := by
  have h1 := mul_bd (x := 2 * (a + 2)) (y := m) (X := 44) (Y := 500) (by omega) (by omega)
  have h2 := Int.mul_le_mul (a := 6) (b := 1) (c := 2 * (a + 2)) (d := m) (by omega) (by omega) (by omega) (by omega)
  omega

set_option maxHeartbeats 1000000 in
theorem implDiameters_any (t m a s c h : Int) (w : World) :
    Calls Try.prog 30 #[.agg #[.int .i64 t, .int .i64 m, .int .i64 a, .int .i64 s, .int .i64 c, .int .i64 h]] w fun e w' => e = .returned (.tuple #[.int .i64 (diaP t m a s c h), .int .i64 (diaO t m a s c h), .int .i64 (diaR t m a s c h), .int .i64 (diaC t m a s c h)]) ∧ Ext w w' := by
  cases h1 : vProf t m a s c h
  · have e1 := Lib.hid (show 0 = diaP t m a s c h by simp [diaP, h1])
    have e2 := Lib.hid (show 0 = diaO t m a s c h by simp [diaO, h1])
    have e3 := Lib.hid (show 0 = diaR t m a s c h by simp [diaR, h1])
    have e4 := Lib.hid (show 1 = diaC t m a s c h by simp [diaC, h1])
    go_enter Try.func30, Try.ntmps30
    go_wp2_with fail
    have x0 := Ext.refl (w.alloc (Obj.cells #[.int .i64 t, .int .i64 m, .int .i64 a, .int .i64 s, .int .i64 c, .int .i64 h] 35))
    go_wp2_with (go_at_call 25; refine (implValidProfile_any t m a s c h _).mono ?_; rintro e w1 ⟨rfl, x1⟩; (try clear xc xf xs); (first | replace x0 := x0.trans x1 | replace x0 := (x0.alloc _).trans x1 | replace x0 := (x0.drew).trans x1 | replace x0 := ((x0.alloc _).alloc _).trans x1); clear x1; obtain ⟨xc, xf, xs⟩ := x0.cells)
    refine bodyPost_ret (results_tmp4 rfl _ _ _) rfl ?_
    exact ⟨ret4 e1.out e2.out e3.out e4.out, ((Ext.refl _).alloc _).trans x0⟩
  · have e1 := Lib.hid (show pitD t m = diaP t m a s c h by simp [diaP, h1])
    have e2 := Lib.hid (show outD t m a = diaO t m a s c h by simp [diaO, h1])
    have e3 := Lib.hid (show pitD t m - 2 * (a + 2) * m = diaR t m a s c h by simp [diaR, h1])
    have e4 := Lib.hid (show 0 = diaC t m a s c h by simp [diaC, h1])
    have pv := vProf_iff.1 h1
    have ht := pv.bt; have hm := pv.bm; have ha := pv.ba
    clear pv
    have hp := pitD_bd ht hm
    have hq := add2_bd hm ha
    have q0 : IntKind.i64.wrap (a + 2) = a + 2 := IntWalk.i64_in _ (by omega)
    have q1 : IntKind.i64.wrap (2 * (a + 2)) = 2 * (a + 2) := IntWalk.i64_in _ (by omega)
    have q2 : IntKind.i64.wrap (2 * (a + 2) * m) = 2 * (a + 2) * m := IntWalk.i64_in _ (by omega)
    have q3 : IntKind.i64.wrap (pitD t m - 2 * (a + 2) * m) = pitD t m - 2 * (a + 2) * m := IntWalk.i64_in _ (by omega)
    go_enter Try.func30, Try.ntmps30
    go_wp2_with fail
    have x0 := Ext.refl (w.alloc (Obj.cells #[.int .i64 t, .int .i64 m, .int .i64 a, .int .i64 s, .int .i64 c, .int .i64 h] 35))
    go_wp2_with (go_at_call 25; refine (implValidProfile_any t m a s c h _).mono ?_; rintro e w1 ⟨rfl, x1⟩; (try clear xc xf xs); (first | replace x0 := x0.trans x1 | replace x0 := (x0.alloc _).trans x1 | replace x0 := (x0.drew).trans x1 | replace x0 := ((x0.alloc _).alloc _).trans x1); clear x1; obtain ⟨xc, xf, xs⟩ := x0.cells)
    go_region_held3 (fun w' => w'.cell? ⟨w.heap.size, 0, none⟩ = some (.int .i64 t) ∧ w'.cell? ⟨w.heap.size, 1, none⟩ = some (.int .i64 m) ∧ w'.cell? ⟨w.heap.size, 2, none⟩ = some (.int .i64 a) ∧ w'.cell? ⟨w.heap.size, 3, none⟩ = some (.int .i64 s) ∧ w'.cell? ⟨w.heap.size, 4, none⟩ = some (.int .i64 c) ∧ w'.cell? ⟨w.heap.size, 5, none⟩ = some (.int .i64 h))
    (first | go_keep | (refine ⟨?_, ?_, ?_, ?_, ?_, ?_⟩ <;> simp [*]))
    (first | (go_at_call 63; refine (pitchOf_any t m a s c h _ ht hm).mono ?_; rintro e w1 ⟨rfl, x1⟩; (try clear xc xf xs); (first | replace x0 := x0.trans x1 | replace x0 := (x0.alloc _).trans x1 | replace x0 := (x0.drew).trans x1 | replace x0 := ((x0.alloc _).alloc _).trans x1); clear x1; obtain ⟨xc, xf, xs⟩ := x0.cells) | (go_at_call 64; refine (outsideOf_any t m a s c h _ ht hm ha).mono ?_; rintro e w1 ⟨rfl, x1⟩; (try clear xc xf xs); (first | replace x0 := x0.trans x1 | replace x0 := (x0.alloc _).trans x1 | replace x0 := (x0.drew).trans x1 | replace x0 := ((x0.alloc _).alloc _).trans x1); clear x1; obtain ⟨xc, xf, xs⟩ := x0.cells))
    go_wp2
    refine bodyPost_ret (results_tmp4 rfl _ _ _) rfl ?_
    exact ⟨ret4 e1.out e2.out e3.out e4.out, ((Ext.refl _).alloc _).trans x0⟩

set_option maxHeartbeats 1000000 in
theorem specDiameters_any (t m a s c h : Int) (w : World) :
    Calls Try.prog 29 #[.agg #[.int .i64 t, .int .i64 m, .int .i64 a, .int .i64 s, .int .i64 c, .int .i64 h]] w fun e w' => e = .returned (.tuple #[.int .i64 (diaP t m a s c h), .int .i64 (diaO t m a s c h), .int .i64 (diaR t m a s c h), .int .i64 (diaC t m a s c h)]) ∧ Ext w w' := by
  cases h1 : vProf t m a s c h
  · have e1 := Lib.hid (show 0 = diaP t m a s c h by simp [diaP, h1])
    have e2 := Lib.hid (show 0 = diaO t m a s c h by simp [diaO, h1])
    have e3 := Lib.hid (show 0 = diaR t m a s c h by simp [diaR, h1])
    have e4 := Lib.hid (show 1 = diaC t m a s c h by simp [diaC, h1])
    go_enter Try.func29, Try.ntmps29
    go_wp2_with fail
    have x0 := Ext.refl (w.alloc (Obj.cells #[.int .i64 t, .int .i64 m, .int .i64 a, .int .i64 s, .int .i64 c, .int .i64 h] 35))
    go_wp2_with (go_at_call 56; refine (l10Ok_any t m a s c h _).mono ?_; rintro e w1 ⟨rfl, x1⟩; (try clear xc xf xs); (first | replace x0 := x0.trans x1 | replace x0 := (x0.alloc _).trans x1 | replace x0 := (x0.drew).trans x1 | replace x0 := ((x0.alloc _).alloc _).trans x1); clear x1; obtain ⟨xc, xf, xs⟩ := x0.cells)
    refine bodyPost_ret (results_tmp4 rfl _ _ _) rfl ?_
    exact ⟨ret4 e1.out e2.out e3.out e4.out, ((Ext.refl _).alloc _).trans x0⟩
  · have e1 := Lib.hid (show pitD t m = diaP t m a s c h by simp [diaP, h1])
    have e2 := Lib.hid (show outD t m a = diaO t m a s c h by simp [diaO, h1])
    have e3 := Lib.hid (show pitD t m - 2 * (a + 2) * m = diaR t m a s c h by simp [diaR, h1])
    have e4 := Lib.hid (show 0 = diaC t m a s c h by simp [diaC, h1])
    have pv := vProf_iff.1 h1
    have ht := pv.bt; have hm := pv.bm; have ha := pv.ba
    clear pv
    have hp := pitD_bd ht hm
    have hq := add2_bd hm ha
    have q0 : IntKind.i64.wrap (a + 2) = a + 2 := IntWalk.i64_in _ (by omega)
    have q1 : IntKind.i64.wrap (2 * (a + 2)) = 2 * (a + 2) := IntWalk.i64_in _ (by omega)
    have q2 : IntKind.i64.wrap (2 * (a + 2) * m) = 2 * (a + 2) * m := IntWalk.i64_in _ (by omega)
    have q3 : IntKind.i64.wrap (pitD t m - 2 * (a + 2) * m) = pitD t m - 2 * (a + 2) * m := IntWalk.i64_in _ (by omega)
    go_enter Try.func29, Try.ntmps29
    go_wp2_with fail
    have x0 := Ext.refl (w.alloc (Obj.cells #[.int .i64 t, .int .i64 m, .int .i64 a, .int .i64 s, .int .i64 c, .int .i64 h] 35))
    go_wp2_with (go_at_call 56; refine (l10Ok_any t m a s c h _).mono ?_; rintro e w1 ⟨rfl, x1⟩; (try clear xc xf xs); (first | replace x0 := x0.trans x1 | replace x0 := (x0.alloc _).trans x1 | replace x0 := (x0.drew).trans x1 | replace x0 := ((x0.alloc _).alloc _).trans x1); clear x1; obtain ⟨xc, xf, xs⟩ := x0.cells)
    go_region_held3 (fun w' => w'.cell? ⟨w.heap.size, 0, none⟩ = some (.int .i64 t) ∧ w'.cell? ⟨w.heap.size, 1, none⟩ = some (.int .i64 m) ∧ w'.cell? ⟨w.heap.size, 2, none⟩ = some (.int .i64 a) ∧ w'.cell? ⟨w.heap.size, 3, none⟩ = some (.int .i64 s) ∧ w'.cell? ⟨w.heap.size, 4, none⟩ = some (.int .i64 c) ∧ w'.cell? ⟨w.heap.size, 5, none⟩ = some (.int .i64 h))
    (first | go_keep | (refine ⟨?_, ?_, ?_, ?_, ?_, ?_⟩ <;> simp [*]))
    (first | (go_at_call 61; refine (l10Pitch_any t m a s c h _ ht hm).mono ?_; rintro e w1 ⟨rfl, x1⟩; (try clear xc xf xs); (first | replace x0 := x0.trans x1 | replace x0 := (x0.alloc _).trans x1 | replace x0 := (x0.drew).trans x1 | replace x0 := ((x0.alloc _).alloc _).trans x1); clear x1; obtain ⟨xc, xf, xs⟩ := x0.cells) | (go_at_call 62; refine (l10Outside_any t m a s c h _ ht hm ha).mono ?_; rintro e w1 ⟨rfl, x1⟩; (try clear xc xf xs); (first | replace x0 := x0.trans x1 | replace x0 := (x0.alloc _).trans x1 | replace x0 := (x0.drew).trans x1 | replace x0 := ((x0.alloc _).alloc _).trans x1); clear x1; obtain ⟨xc, xf, xs⟩ := x0.cells))
    go_wp2
    refine bodyPost_ret (results_tmp4 rfl _ _ _) rfl ?_
    exact ⟨ret4 e1.out e2.out e3.out e4.out, ((Ext.refl _).alloc _).trans x0⟩

set_option maxHeartbeats 1000000 in
theorem validProfile_walk (t m a s c h : Int) (w : World) (b0 : -9223372036854775808 ≤ t ∧ t ≤ 9223372036854775807) (b1 : -9223372036854775808 ≤ m ∧ m ≤ 9223372036854775807) (b2 : -9223372036854775808 ≤ a ∧ a ≤ 9223372036854775807) (b3 : -9223372036854775808 ≤ s ∧ s ≤ 9223372036854775807) (b4 : -9223372036854775808 ≤ c ∧ c ≤ 9223372036854775807) (b5 : -9223372036854775808 ≤ h ∧ h ≤ 9223372036854775807) :
    Calls Try.prog 5 #[.agg #[.int .i64 t, .int .i64 m, .int .i64 a, .int .i64 s, .int .i64 c, .int .i64 h]] w fun e w' => e = .returned (.bool true) ∧ Ext w w' := by
  clear b0 b1 b2 b3 b4 b5
  go_enter Try.func5, Try.ntmps5
  go_wp2_with fail
  have x0 := Ext.refl (w.alloc (Obj.cells #[.int .i64 t, .int .i64 m, .int .i64 a, .int .i64 s, .int .i64 c, .int .i64 h] 32))
  go_wp2_with (first | (go_at_call 24; refine (toProfile_any t m a s c h _).mono ?_; rintro e w1 ⟨rfl, x1⟩; (try clear xc xf xs); (first | replace x0 := x0.trans x1 | replace x0 := (x0.alloc _).trans x1 | replace x0 := (x0.drew).trans x1 | replace x0 := ((x0.alloc _).alloc _).trans x1); clear x1; obtain ⟨xc, xf, xs⟩ := x0.cells) | (go_at_call 23; refine (specValidProfile_any t m a s c h _).mono ?_; rintro e w1 ⟨rfl, x1⟩; (try clear xc xf xs); (first | replace x0 := x0.trans x1 | replace x0 := (x0.alloc _).trans x1 | replace x0 := (x0.drew).trans x1 | replace x0 := ((x0.alloc _).alloc _).trans x1); clear x1; obtain ⟨xc, xf, xs⟩ := x0.cells) | (go_at_call 25; refine (implValidProfile_any t m a s c h _).mono ?_; rintro e w1 ⟨rfl, x1⟩; (try clear xc xf xs); (first | replace x0 := x0.trans x1 | replace x0 := (x0.alloc _).trans x1 | replace x0 := (x0.drew).trans x1 | replace x0 := ((x0.alloc _).alloc _).trans x1); clear x1; obtain ⟨xc, xf, xs⟩ := x0.cells))
  go_ret
  exact ⟨rfl, ((Ext.refl _).alloc _).trans x0⟩

set_option maxHeartbeats 1000000 in
theorem diameters_walk (t m a s c h : Int) (w : World) (b0 : -9223372036854775808 ≤ t ∧ t ≤ 9223372036854775807) (b1 : -9223372036854775808 ≤ m ∧ m ≤ 9223372036854775807) (b2 : -9223372036854775808 ≤ a ∧ a ≤ 9223372036854775807) (b3 : -9223372036854775808 ≤ s ∧ s ≤ 9223372036854775807) (b4 : -9223372036854775808 ≤ c ∧ c ≤ 9223372036854775807) (b5 : -9223372036854775808 ≤ h ∧ h ≤ 9223372036854775807) :
    Calls Try.prog 7 #[.agg #[.int .i64 t, .int .i64 m, .int .i64 a, .int .i64 s, .int .i64 c, .int .i64 h]] w fun e w' => e = .returned (.bool true) ∧ Ext w w' := by
  clear b0 b1 b2 b3 b4 b5
  go_enter Try.func7, Try.ntmps7
  go_wp2_with fail
  have x0 := Ext.refl (w.alloc (Obj.cells #[.int .i64 t, .int .i64 m, .int .i64 a, .int .i64 s, .int .i64 c, .int .i64 h] 32))
  go_wp2_with (first | (go_at_call 24; refine (toProfile_any t m a s c h _).mono ?_; rintro e w1 ⟨rfl, x1⟩; (try clear xc xf xs); (first | replace x0 := x0.trans x1 | replace x0 := (x0.alloc _).trans x1 | replace x0 := (x0.drew).trans x1 | replace x0 := ((x0.alloc _).alloc _).trans x1); clear x1; obtain ⟨xc, xf, xs⟩ := x0.cells) | (go_at_call 29; refine (specDiameters_any t m a s c h _).mono ?_; rintro e w1 ⟨rfl, x1⟩; (try clear xc xf xs); (first | replace x0 := x0.trans x1 | replace x0 := (x0.alloc _).trans x1 | replace x0 := (x0.drew).trans x1 | replace x0 := ((x0.alloc _).alloc _).trans x1); clear x1; obtain ⟨xc, xf, xs⟩ := x0.cells) | (go_at_call 30; refine (implDiameters_any t m a s c h _).mono ?_; rintro e w1 ⟨rfl, x1⟩; (try clear xc xf xs); (first | replace x0 := x0.trans x1 | replace x0 := (x0.alloc _).trans x1 | replace x0 := (x0.drew).trans x1 | replace x0 := ((x0.alloc _).alloc _).trans x1); clear x1; obtain ⟨xc, xf, xs⟩ := x0.cells))
  go_ret
  exact ⟨rfl, ((Ext.refl _).alloc _).trans x0⟩

end Go.Proofs.Ytbhhiodbhlhpmaa
