/-
  Contracts of the valid profile and of its diameters.
-/
import Derived.Test.YtbhhiodbhlhpmaaTeeth
import Derived.Test.YtbhhiodbhlhpmaaPair
namespace Go.Proofs.Ytbhhiodbhlhpmaa
open Go.RowKit
set_option linter.unusedSimpArgs false
set_option linter.unusedVariables false

def vProf (t m a s c h : Int) : Bool := inB t 6 240 && inB m 1 500 && inB a 1 20 && vAngle s c h

/-- What is known of a valid profile. -/
structure PV (t m a s c h : Int) : Prop where
  bt : 6 ≤ t ∧ t ≤ 240
  bm : 1 ≤ m ∧ m ≤ 500
  ba : 1 ≤ a ∧ a ≤ 20
  bs : 1 ≤ s ∧ s ≤ 1000
  bc : 1 ≤ c ∧ c ≤ 1000
  bh : 1 ≤ h ∧ h ≤ 1000
  sq : s * s + c * c = h * h

theorem vProf_iff {t m a s c h : Int} : vProf t m a s c h = true ↔ PV t m a s c h := by
  simp only [vProf, Bool.and_eq_true, inB_iff, vAngle_iff]
  exact ⟨fun ⟨⟨⟨x1, x2⟩, x3⟩, x4, x5, x6, x7⟩ => ⟨x1, x2, x3, x4, x5, x6, x7⟩, fun ⟨x1, x2, x3, x4, x5, x6, x7⟩ => ⟨⟨⟨x1, x2⟩, x3⟩, x4, x5, x6, x7⟩⟩

def pitD (t m : Int) : Int := 10 * t * m
def outD (t m a : Int) : Int := 10 * t * m + 2 * a * m

theorem pit_bd {t m : Int} (ht : 6 ≤ t ∧ t ≤ 240) (hm : 1 ≤ m ∧ m ≤ 500) : 60 ≤ 10 * t * m ∧ 10 * t * m ≤ 1200000 := by
  have h1 := mul_bd (x := 10 * t) (y := m) (X := 2400) (Y := 500) (by omega) (by omega)
  have h2 := Int.mul_le_mul (a := 60) (b := 1) (c := 10 * t) (d := m) (by omega) (by omega) (by omega) (by omega)
  omega
theorem add_bd {m a : Int} (hm : 1 ≤ m ∧ m ≤ 500) (ha : 1 ≤ a ∧ a ≤ 20) : 2 ≤ 2 * a * m ∧ 2 * a * m ≤ 20000 := by
  have h1 := mul_bd (x := 2 * a) (y := m) (X := 40) (Y := 500) (by omega) (by omega)
  have h2 := Int.mul_le_mul (a := 2) (b := 1) (c := 2 * a) (d := m) (by omega) (by omega) (by omega) (by omega)
  omega
theorem pitD_bd {t m : Int} (ht : 6 ≤ t ∧ t ≤ 240) (hm : 1 ≤ m ∧ m ≤ 500) : 60 ≤ pitD t m ∧ pitD t m ≤ 1200000 := pit_bd ht hm
theorem outD_bd {t m a : Int} (ht : 6 ≤ t ∧ t ≤ 240) (hm : 1 ≤ m ∧ m ≤ 500) (ha : 1 ≤ a ∧ a ≤ 20) : 62 ≤ outD t m a ∧ outD t m a ≤ 1220000 := by
  have := pit_bd ht hm
  have := add_bd hm ha
  unfold outD
  omega

set_option maxHeartbeats 1000000 in
theorem toProfile_any (t m a s c h : Int) (w : World) :
    Calls Try.prog 24 #[.agg #[.int .i64 t, .int .i64 m, .int .i64 a, .int .i64 s, .int .i64 c, .int .i64 h]] w fun e w' => e = .returned (.agg #[.int .i64 t, .int .i64 m, .int .i64 a, .int .i64 s, .int .i64 c, .int .i64 h]) ∧ Ext w w' := by
  go_enter Try.func24, Try.ntmps24
  go_wp2_with fail
  have x0 := Ext.refl (((w.alloc (Obj.cells #[.int .i64 t, .int .i64 m, .int .i64 a, .int .i64 s, .int .i64 c, .int .i64 h] 32)).alloc (Obj.cells #[.int .i64 0, .int .i64 0, .int .i64 0, .int .i64 0, .int .i64 0, .int .i64 0] 35)).alloc (Obj.cells #[.int .i64 t, .int .i64 m, .int .i64 a, .int .i64 0, .int .i64 0, .int .i64 0] 35))
  go_wp2_with (go_at_call 19; refine (toAngle_any s c h _).mono ?_; rintro e w1 ⟨rfl, x1⟩; (try clear xc xf xs); (first | replace x0 := x0.trans x1 | replace x0 := (x0.alloc _).trans x1 | replace x0 := (x0.drew).trans x1 | replace x0 := ((x0.alloc _).alloc _).trans x1); clear x1; obtain ⟨xc, xf, xs⟩ := x0.cells)
  exact bodyPost_ret (v := .agg #[.int .i64 t, .int .i64 m, .int .i64 a, .int .i64 s, .int .i64 c, .int .i64 h]) (by simp [results, Try.results24, go_sem, *]) rfl ⟨rfl, by (iterate 9 (refine Ext.setCell ?_ (by simp; try omega) _)); exact ((((Ext.refl _).alloc _).alloc _).alloc _).trans x0⟩

set_option maxHeartbeats 1000000 in
theorem implValidProfile_any (t m a s c h : Int) (w : World) :
    Calls Try.prog 25 #[.agg #[.int .i64 t, .int .i64 m, .int .i64 a, .int .i64 s, .int .i64 c, .int .i64 h]] w fun e w' => e = .returned (.bool (vProf t m a s c h)) ∧ Ext w w' := by
  cases h1 : inB t 6 240
  · have e := Lib.hid (show false = vProf t m a s c h by simp [vProf, h1])
    go_enter Try.func25, Try.ntmps25
    go_wp2_with fail
    have x0 := Ext.refl (w.alloc (Obj.cells #[.int .i64 t, .int .i64 m, .int .i64 a, .int .i64 s, .int .i64 c, .int .i64 h] 35))
    go_wp2_with (first | (go_at_call 57; refine (toothed_any _ _).mono ?_; rintro e w1 ⟨rfl, rfl⟩) | (go_at_call 51; refine (within_any _ _ _ _).mono ?_; rintro e w1 ⟨rfl, rfl⟩) | (go_at_call 20; refine (implValidAngle_any s c h _).mono ?_; rintro e w1 ⟨rfl, x1⟩; (try clear xc xf xs); (first | replace x0 := x0.trans x1 | replace x0 := (x0.alloc _).trans x1 | replace x0 := (x0.drew).trans x1 | replace x0 := ((x0.alloc _).alloc _).trans x1); clear x1; obtain ⟨xc, xf, xs⟩ := x0.cells))
    go_ret
    exact ⟨ret_bool e.out, ((Ext.refl _).alloc _).trans x0⟩
  · cases h2 : inB m 1 500
    · have e := Lib.hid (show false = vProf t m a s c h by simp [vProf, h2])
      go_enter Try.func25, Try.ntmps25
      go_wp2_with fail
      have x0 := Ext.refl (w.alloc (Obj.cells #[.int .i64 t, .int .i64 m, .int .i64 a, .int .i64 s, .int .i64 c, .int .i64 h] 35))
      go_wp2_with (first | (go_at_call 57; refine (toothed_any _ _).mono ?_; rintro e w1 ⟨rfl, rfl⟩) | (go_at_call 51; refine (within_any _ _ _ _).mono ?_; rintro e w1 ⟨rfl, rfl⟩) | (go_at_call 20; refine (implValidAngle_any s c h _).mono ?_; rintro e w1 ⟨rfl, x1⟩; (try clear xc xf xs); (first | replace x0 := x0.trans x1 | replace x0 := (x0.alloc _).trans x1 | replace x0 := (x0.drew).trans x1 | replace x0 := ((x0.alloc _).alloc _).trans x1); clear x1; obtain ⟨xc, xf, xs⟩ := x0.cells))
      go_ret
      exact ⟨ret_bool e.out, ((Ext.refl _).alloc _).trans x0⟩
    · cases h3 : inB a 1 20
      · have e := Lib.hid (show false = vProf t m a s c h by simp [vProf, h3])
        go_enter Try.func25, Try.ntmps25
        go_wp2_with fail
        have x0 := Ext.refl (w.alloc (Obj.cells #[.int .i64 t, .int .i64 m, .int .i64 a, .int .i64 s, .int .i64 c, .int .i64 h] 35))
        go_wp2_with (first | (go_at_call 57; refine (toothed_any _ _).mono ?_; rintro e w1 ⟨rfl, rfl⟩) | (go_at_call 51; refine (within_any _ _ _ _).mono ?_; rintro e w1 ⟨rfl, rfl⟩) | (go_at_call 20; refine (implValidAngle_any s c h _).mono ?_; rintro e w1 ⟨rfl, x1⟩; (try clear xc xf xs); (first | replace x0 := x0.trans x1 | replace x0 := (x0.alloc _).trans x1 | replace x0 := (x0.drew).trans x1 | replace x0 := ((x0.alloc _).alloc _).trans x1); clear x1; obtain ⟨xc, xf, xs⟩ := x0.cells))
        go_ret
        exact ⟨ret_bool e.out, ((Ext.refl _).alloc _).trans x0⟩
      · have e := Lib.hid (show vAngle s c h = vProf t m a s c h by simp [vProf, h1, h2, h3])
        go_enter Try.func25, Try.ntmps25
        go_wp2_with fail
        have x0 := Ext.refl (w.alloc (Obj.cells #[.int .i64 t, .int .i64 m, .int .i64 a, .int .i64 s, .int .i64 c, .int .i64 h] 35))
        go_wp2_with (first | (go_at_call 57; refine (toothed_any _ _).mono ?_; rintro e w1 ⟨rfl, rfl⟩) | (go_at_call 51; refine (within_any _ _ _ _).mono ?_; rintro e w1 ⟨rfl, rfl⟩) | (go_at_call 20; refine (implValidAngle_any s c h _).mono ?_; rintro e w1 ⟨rfl, x1⟩; (try clear xc xf xs); (first | replace x0 := x0.trans x1 | replace x0 := (x0.alloc _).trans x1 | replace x0 := (x0.drew).trans x1 | replace x0 := ((x0.alloc _).alloc _).trans x1); clear x1; obtain ⟨xc, xf, xs⟩ := x0.cells))
        go_ret
        exact ⟨ret_bool e.out, ((Ext.refl _).alloc _).trans x0⟩

set_option maxHeartbeats 1000000 in
theorem l10Ok_any (t m a s c h : Int) (w : World) :
    Calls Try.prog 56 #[.agg #[.int .i64 t, .int .i64 m, .int .i64 a, .int .i64 s, .int .i64 c, .int .i64 h]] w fun e w' => e = .returned (.bool (vProf t m a s c h)) ∧ Ext w w' := by
  cases h1 : inB t 6 240
  · have e := Lib.hid (show false = vProf t m a s c h by simp [vProf, h1])
    go_enter Try.func56, Try.ntmps56
    go_wp2_with fail
    have x0 := Ext.refl (w.alloc (Obj.cells #[.int .i64 t, .int .i64 m, .int .i64 a, .int .i64 s, .int .i64 c, .int .i64 h] 35))
    go_wp2_with (first | (go_at_call 52; refine (l00In_any _ _ _ _).mono ?_; rintro e w1 ⟨rfl, rfl⟩) | (go_at_call 50; refine (l10Angle_any s c h _).mono ?_; rintro e w1 ⟨rfl, x1⟩; (try clear xc xf xs); (first | replace x0 := x0.trans x1 | replace x0 := (x0.alloc _).trans x1 | replace x0 := (x0.drew).trans x1 | replace x0 := ((x0.alloc _).alloc _).trans x1); clear x1; obtain ⟨xc, xf, xs⟩ := x0.cells))
    go_ret
    exact ⟨ret_bool e.out, ((Ext.refl _).alloc _).trans x0⟩
  · cases h2 : inB m 1 500
    · have e := Lib.hid (show false = vProf t m a s c h by simp [vProf, h2])
      go_enter Try.func56, Try.ntmps56
      go_wp2_with fail
      have x0 := Ext.refl (w.alloc (Obj.cells #[.int .i64 t, .int .i64 m, .int .i64 a, .int .i64 s, .int .i64 c, .int .i64 h] 35))
      go_wp2_with (first | (go_at_call 52; refine (l00In_any _ _ _ _).mono ?_; rintro e w1 ⟨rfl, rfl⟩) | (go_at_call 50; refine (l10Angle_any s c h _).mono ?_; rintro e w1 ⟨rfl, x1⟩; (try clear xc xf xs); (first | replace x0 := x0.trans x1 | replace x0 := (x0.alloc _).trans x1 | replace x0 := (x0.drew).trans x1 | replace x0 := ((x0.alloc _).alloc _).trans x1); clear x1; obtain ⟨xc, xf, xs⟩ := x0.cells))
      go_ret
      exact ⟨ret_bool e.out, ((Ext.refl _).alloc _).trans x0⟩
    · cases h3 : inB a 1 20
      · have e := Lib.hid (show false = vProf t m a s c h by simp [vProf, h3])
        go_enter Try.func56, Try.ntmps56
        go_wp2_with fail
        have x0 := Ext.refl (w.alloc (Obj.cells #[.int .i64 t, .int .i64 m, .int .i64 a, .int .i64 s, .int .i64 c, .int .i64 h] 35))
        go_wp2_with (first | (go_at_call 52; refine (l00In_any _ _ _ _).mono ?_; rintro e w1 ⟨rfl, rfl⟩) | (go_at_call 50; refine (l10Angle_any s c h _).mono ?_; rintro e w1 ⟨rfl, x1⟩; (try clear xc xf xs); (first | replace x0 := x0.trans x1 | replace x0 := (x0.alloc _).trans x1 | replace x0 := (x0.drew).trans x1 | replace x0 := ((x0.alloc _).alloc _).trans x1); clear x1; obtain ⟨xc, xf, xs⟩ := x0.cells))
        go_ret
        exact ⟨ret_bool e.out, ((Ext.refl _).alloc _).trans x0⟩
      · have e := Lib.hid (show vAngle s c h = vProf t m a s c h by simp [vProf, h1, h2, h3])
        go_enter Try.func56, Try.ntmps56
        go_wp2_with fail
        have x0 := Ext.refl (w.alloc (Obj.cells #[.int .i64 t, .int .i64 m, .int .i64 a, .int .i64 s, .int .i64 c, .int .i64 h] 35))
        go_wp2_with (first | (go_at_call 52; refine (l00In_any _ _ _ _).mono ?_; rintro e w1 ⟨rfl, rfl⟩) | (go_at_call 50; refine (l10Angle_any s c h _).mono ?_; rintro e w1 ⟨rfl, x1⟩; (try clear xc xf xs); (first | replace x0 := x0.trans x1 | replace x0 := (x0.alloc _).trans x1 | replace x0 := (x0.drew).trans x1 | replace x0 := ((x0.alloc _).alloc _).trans x1); clear x1; obtain ⟨xc, xf, xs⟩ := x0.cells))
        go_ret
        exact ⟨ret_bool e.out, ((Ext.refl _).alloc _).trans x0⟩

set_option maxHeartbeats 400000 in
theorem specValidProfile_any (t m a s c h : Int) (w : World) :
    Calls Try.prog 23 #[.agg #[.int .i64 t, .int .i64 m, .int .i64 a, .int .i64 s, .int .i64 c, .int .i64 h]] w fun e w' => e = .returned (.bool (vProf t m a s c h)) ∧ Ext w w' := by
  go_enter Try.func23, Try.ntmps23
  go_wp2_with fail
  have x0 := Ext.refl (w.alloc (Obj.cells #[.int .i64 t, .int .i64 m, .int .i64 a, .int .i64 s, .int .i64 c, .int .i64 h] 35))
  go_wp2_with (go_at_call 56; refine (l10Ok_any t m a s c h _).mono ?_; rintro e w1 ⟨rfl, x1⟩; (try clear xc xf xs); (first | replace x0 := x0.trans x1 | replace x0 := (x0.alloc _).trans x1 | replace x0 := (x0.drew).trans x1 | replace x0 := ((x0.alloc _).alloc _).trans x1); clear x1; obtain ⟨xc, xf, xs⟩ := x0.cells)
  go_ret
  exact ⟨rfl, ((Ext.refl _).alloc _).trans x0⟩

set_option maxHeartbeats 400000 in
theorem pitchOf_any (t m a s c h : Int) (w : World) (ht : 6 ≤ t ∧ t ≤ 240) (hm : 1 ≤ m ∧ m ≤ 500) :
    Calls Try.prog 63 #[.agg #[.int .i64 t, .int .i64 m, .int .i64 a, .int .i64 s, .int .i64 c, .int .i64 h]] w fun e w' => e = .returned (.int .i64 (pitD t m)) ∧ Ext w w' := by
  have hp := pit_bd ht hm
  go_enter Try.func63, Try.ntmps63
  go_wp2
  go_ret
  exact ⟨rfl, (Ext.refl _).alloc _⟩

set_option maxHeartbeats 400000 in
theorem l10Pitch_any (t m a s c h : Int) (w : World) (ht : 6 ≤ t ∧ t ≤ 240) (hm : 1 ≤ m ∧ m ≤ 500) :
    Calls Try.prog 61 #[.agg #[.int .i64 t, .int .i64 m, .int .i64 a, .int .i64 s, .int .i64 c, .int .i64 h]] w fun e w' => e = .returned (.int .i64 (pitD t m)) ∧ Ext w w' := by
  have hp := pit_bd ht hm
  go_enter Try.func61, Try.ntmps61
  go_wp2
  go_ret
  exact ⟨rfl, (Ext.refl _).alloc _⟩

set_option maxHeartbeats 1000000 in
theorem outsideOf_any (t m a s c h : Int) (w : World) (ht : 6 ≤ t ∧ t ≤ 240) (hm : 1 ≤ m ∧ m ≤ 500) (ha : 1 ≤ a ∧ a ≤ 20) :
    Calls Try.prog 64 #[.agg #[.int .i64 t, .int .i64 m, .int .i64 a, .int .i64 s, .int .i64 c, .int .i64 h]] w fun e w' => e = .returned (.int .i64 (outD t m a)) ∧ Ext w w' := by
  have hp := pitD_bd ht hm
  have hq := add_bd hm ha
  have q1 : IntKind.i64.wrap (2 * a) = 2 * a := IntWalk.i64_in _ (by omega)
  have q2 : IntKind.i64.wrap (2 * a * m) = 2 * a * m := IntWalk.i64_in _ (by omega)
  have q3 : IntKind.i64.wrap (pitD t m + 2 * a * m) = pitD t m + 2 * a * m := IntWalk.i64_in _ (by omega)
  go_enter Try.func64, Try.ntmps64
  go_wp2
  have x0 := Ext.refl (w.alloc (Obj.cells #[.int .i64 t, .int .i64 m, .int .i64 a, .int .i64 s, .int .i64 c, .int .i64 h] 35))
  go_region_held3 (fun w' => w'.cell? ⟨w.heap.size, 0, none⟩ = some (.int .i64 t) ∧ w'.cell? ⟨w.heap.size, 1, none⟩ = some (.int .i64 m) ∧ w'.cell? ⟨w.heap.size, 2, none⟩ = some (.int .i64 a) ∧ w'.cell? ⟨w.heap.size, 3, none⟩ = some (.int .i64 s) ∧ w'.cell? ⟨w.heap.size, 4, none⟩ = some (.int .i64 c) ∧ w'.cell? ⟨w.heap.size, 5, none⟩ = some (.int .i64 h))
    (first | go_keep | (refine ⟨?_, ?_, ?_, ?_, ?_, ?_⟩ <;> simp [*]))
    (first | (go_at_call 63; refine (pitchOf_any t m a s c h _ ht hm).mono ?_; rintro e w1 ⟨rfl, x1⟩; (try clear xc xf xs); (first | replace x0 := x0.trans x1 | replace x0 := (x0.alloc _).trans x1 | replace x0 := (x0.drew).trans x1 | replace x0 := ((x0.alloc _).alloc _).trans x1); clear x1; obtain ⟨xc, xf, xs⟩ := x0.cells))
  go_wp2
  go_ret
  exact ⟨rfl, ((Ext.refl _).alloc _).trans x0⟩

set_option maxHeartbeats 1000000 in
theorem l10Outside_any (t m a s c h : Int) (w : World) (ht : 6 ≤ t ∧ t ≤ 240) (hm : 1 ≤ m ∧ m ≤ 500) (ha : 1 ≤ a ∧ a ≤ 20) :
    Calls Try.prog 62 #[.agg #[.int .i64 t, .int .i64 m, .int .i64 a, .int .i64 s, .int .i64 c, .int .i64 h]] w fun e w' => e = .returned (.int .i64 (outD t m a)) ∧ Ext w w' := by
  have hp := pitD_bd ht hm
  have hq := add_bd hm ha
  have q1 : IntKind.i64.wrap (2 * a) = 2 * a := IntWalk.i64_in _ (by omega)
  have q2 : IntKind.i64.wrap (2 * a * m) = 2 * a * m := IntWalk.i64_in _ (by omega)
  have q3 : IntKind.i64.wrap (pitD t m + 2 * a * m) = pitD t m + 2 * a * m := IntWalk.i64_in _ (by omega)
  go_enter Try.func62, Try.ntmps62
  go_wp2
  have x0 := Ext.refl (w.alloc (Obj.cells #[.int .i64 t, .int .i64 m, .int .i64 a, .int .i64 s, .int .i64 c, .int .i64 h] 35))
  go_region_held3 (fun w' => w'.cell? ⟨w.heap.size, 0, none⟩ = some (.int .i64 t) ∧ w'.cell? ⟨w.heap.size, 1, none⟩ = some (.int .i64 m) ∧ w'.cell? ⟨w.heap.size, 2, none⟩ = some (.int .i64 a) ∧ w'.cell? ⟨w.heap.size, 3, none⟩ = some (.int .i64 s) ∧ w'.cell? ⟨w.heap.size, 4, none⟩ = some (.int .i64 c) ∧ w'.cell? ⟨w.heap.size, 5, none⟩ = some (.int .i64 h))
    (first | go_keep | (refine ⟨?_, ?_, ?_, ?_, ?_, ?_⟩ <;> simp [*]))
    (first | (go_at_call 61; refine (l10Pitch_any t m a s c h _ ht hm).mono ?_; rintro e w1 ⟨rfl, x1⟩; (try clear xc xf xs); (first | replace x0 := x0.trans x1 | replace x0 := (x0.alloc _).trans x1 | replace x0 := (x0.drew).trans x1 | replace x0 := ((x0.alloc _).alloc _).trans x1); clear x1; obtain ⟨xc, xf, xs⟩ := x0.cells))
  go_wp2
  go_ret
  exact ⟨rfl, ((Ext.refl _).alloc _).trans x0⟩

end Go.Proofs.Ytbhhiodbhlhpmaa
