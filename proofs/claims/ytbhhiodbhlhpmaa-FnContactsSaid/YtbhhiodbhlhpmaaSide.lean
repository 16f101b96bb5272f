/-
  Contracts of the sides on the line of action.
-/
import Derived.Test.YtbhhiodbhlhpmaaContP
import Derived.Test.YtbhhiodbhlhpmaaRoot
import Derived.Test.YtbhhiodbhlhpmaaReach
namespace Go.Proofs.Ytbhhiodbhlhpmaa
open Go.RowKit
set_option linter.unusedSimpArgs false
set_option linter.unusedVariables false


set_option maxHeartbeats 2000000 in
theorem baseSide_any (t m a s c h : Int) (w : World) (v : PV t m a s c h) :
    Calls Try.prog 78 #[.agg #[.int .i64 t, .int .i64 m, .int .i64 a, .int .i64 s, .int .i64 c, .int .i64 h]] w fun e w' => e = .returned (.int .i64 (sidS t m a c h)) ∧ Ext w w' := by
  have y1 := outh_bd v
  have y2 := pitc_bd v
  have d1 := sqb y1
  have d2 := sqb y2
  have q1 : IntKind.i64.wrap (outD t m a * h) = outD t m a * h := IntWalk.i64_in _ (by omega)
  have q2 : IntKind.i64.wrap (pitD t m * c) = pitD t m * c := IntWalk.i64_in _ (by omega)
  have q3 : IntKind.i64.wrap (outD t m a * h * (outD t m a * h)) = outD t m a * h * (outD t m a * h) := IntWalk.i64_in _ (by omega)
  have q4 : IntKind.i64.wrap (pitD t m * c * (pitD t m * c)) = pitD t m * c * (pitD t m * c) := IntWalk.i64_in _ (by omega)
  go_enter Try.func78, Try.ntmps78
  go_wp2
  generalize hW : (w.alloc (Obj.cells #[.int .i64 t, .int .i64 m, .int .i64 a, .int .i64 s, .int .i64 c, .int .i64 h] 35)) = W
  have hE : Ext w W := by rw [← hW]; exact ((Ext.refl _).alloc _)
  have hl0 : w.heap.size < W.heap.size := by rw [← hW]; simp; try omega
  have f0_0 : W.cell? ⟨w.heap.size, 0, none⟩ = some (.int .i64 t) := by rw [← hW]; simp
  have f0_1 : W.cell? ⟨w.heap.size, 1, none⟩ = some (.int .i64 m) := by rw [← hW]; simp
  have f0_2 : W.cell? ⟨w.heap.size, 2, none⟩ = some (.int .i64 a) := by rw [← hW]; simp
  have f0_3 : W.cell? ⟨w.heap.size, 3, none⟩ = some (.int .i64 s) := by rw [← hW]; simp
  have f0_4 : W.cell? ⟨w.heap.size, 4, none⟩ = some (.int .i64 c) := by rw [← hW]; simp
  have f0_5 : W.cell? ⟨w.heap.size, 5, none⟩ = some (.int .i64 h) := by rw [← hW]; simp
  clear hW
  have x0 := Ext.refl W
  go_region_held3 (fun w' => w'.cell? ⟨w.heap.size, 0, none⟩ = some (.int .i64 t) ∧ w'.cell? ⟨w.heap.size, 1, none⟩ = some (.int .i64 m) ∧ w'.cell? ⟨w.heap.size, 2, none⟩ = some (.int .i64 a) ∧ w'.cell? ⟨w.heap.size, 3, none⟩ = some (.int .i64 s) ∧ w'.cell? ⟨w.heap.size, 4, none⟩ = some (.int .i64 c) ∧ w'.cell? ⟨w.heap.size, 5, none⟩ = some (.int .i64 h))
    (first | (refine ⟨?_, ?_, ?_, ?_, ?_, ?_⟩ <;> (refine (xc _ _ ?_).trans ?_ <;> assumption)) | (refine ⟨?_, ?_, ?_, ?_, ?_, ?_⟩ <;> assumption) | go_keep)
    (first | (go_at_call 64; refine (outsideOf_any t m a s c h _ v.bt v.bm v.ba).mono ?_; rintro e w1 ⟨rfl, x1⟩; (try clear xc xf xs); (first | replace x0 := x0.trans x1 | replace x0 := (x0.alloc _).trans x1 | replace x0 := (x0.drew).trans x1 | replace x0 := (x0.drew.alloc _).trans x1 | replace x0 := (x0.alloc _).drew.trans x1 | replace x0 := ((x0.alloc _).alloc _).trans x1 | have x0 := x1); clear x1; obtain ⟨xc, xf, xs⟩ := x0.cells) | (go_at_call 63; refine (pitchOf_any t m a s c h _ v.bt v.bm).mono ?_; rintro e w1 ⟨rfl, x1⟩; (try clear xc xf xs); (first | replace x0 := x0.trans x1 | replace x0 := (x0.alloc _).trans x1 | replace x0 := (x0.drew).trans x1 | replace x0 := (x0.drew.alloc _).trans x1 | replace x0 := (x0.alloc _).drew.trans x1 | replace x0 := ((x0.alloc _).alloc _).trans x1 | have x0 := x1); clear x1; obtain ⟨xc, xf, xs⟩ := x0.cells))
  go_wp2
  go_ret
  exact ⟨rfl, hE.trans x0⟩

set_option maxHeartbeats 2000000 in
theorem l10Square_any (t m a s c h : Int) (w : World) (v : PV t m a s c h) :
    Calls Try.prog 76 #[.agg #[.int .i64 t, .int .i64 m, .int .i64 a, .int .i64 s, .int .i64 c, .int .i64 h]] w fun e w' => e = .returned (.int .i64 (sidS t m a c h)) ∧ Ext w w' := by
  have y1 := outh_bd v
  have y2 := pitc_bd v
  have d1 := sqb y1
  have d2 := sqb y2
  have q1 : IntKind.i64.wrap (outD t m a * h) = outD t m a * h := IntWalk.i64_in _ (by omega)
  have q2 : IntKind.i64.wrap (pitD t m * c) = pitD t m * c := IntWalk.i64_in _ (by omega)
  have q3 : IntKind.i64.wrap (outD t m a * h * (outD t m a * h)) = outD t m a * h * (outD t m a * h) := IntWalk.i64_in _ (by omega)
  have q4 : IntKind.i64.wrap (pitD t m * c * (pitD t m * c)) = pitD t m * c * (pitD t m * c) := IntWalk.i64_in _ (by omega)
  go_enter Try.func76, Try.ntmps76
  go_wp2
  generalize hW : (w.alloc (Obj.cells #[.int .i64 t, .int .i64 m, .int .i64 a, .int .i64 s, .int .i64 c, .int .i64 h] 35)) = W
  have hE : Ext w W := by rw [← hW]; exact ((Ext.refl _).alloc _)
  have hl0 : w.heap.size < W.heap.size := by rw [← hW]; simp; try omega
  have f0_0 : W.cell? ⟨w.heap.size, 0, none⟩ = some (.int .i64 t) := by rw [← hW]; simp
  have f0_1 : W.cell? ⟨w.heap.size, 1, none⟩ = some (.int .i64 m) := by rw [← hW]; simp
  have f0_2 : W.cell? ⟨w.heap.size, 2, none⟩ = some (.int .i64 a) := by rw [← hW]; simp
  have f0_3 : W.cell? ⟨w.heap.size, 3, none⟩ = some (.int .i64 s) := by rw [← hW]; simp
  have f0_4 : W.cell? ⟨w.heap.size, 4, none⟩ = some (.int .i64 c) := by rw [← hW]; simp
  have f0_5 : W.cell? ⟨w.heap.size, 5, none⟩ = some (.int .i64 h) := by rw [← hW]; simp
  clear hW
  have x0 := Ext.refl W
  go_region_held3 (fun w' => w'.cell? ⟨w.heap.size, 0, none⟩ = some (.int .i64 t) ∧ w'.cell? ⟨w.heap.size, 1, none⟩ = some (.int .i64 m) ∧ w'.cell? ⟨w.heap.size, 2, none⟩ = some (.int .i64 a) ∧ w'.cell? ⟨w.heap.size, 3, none⟩ = some (.int .i64 s) ∧ w'.cell? ⟨w.heap.size, 4, none⟩ = some (.int .i64 c) ∧ w'.cell? ⟨w.heap.size, 5, none⟩ = some (.int .i64 h))
    (first | (refine ⟨?_, ?_, ?_, ?_, ?_, ?_⟩ <;> (refine (xc _ _ ?_).trans ?_ <;> assumption)) | (refine ⟨?_, ?_, ?_, ?_, ?_, ?_⟩ <;> assumption) | go_keep)
    (first | (go_at_call 62; refine (l10Outside_any t m a s c h _ v.bt v.bm v.ba).mono ?_; rintro e w1 ⟨rfl, x1⟩; (try clear xc xf xs); (first | replace x0 := x0.trans x1 | replace x0 := (x0.alloc _).trans x1 | replace x0 := (x0.drew).trans x1 | replace x0 := (x0.drew.alloc _).trans x1 | replace x0 := (x0.alloc _).drew.trans x1 | replace x0 := ((x0.alloc _).alloc _).trans x1 | have x0 := x1); clear x1; obtain ⟨xc, xf, xs⟩ := x0.cells))
  go_wp2
  go_region_held3 (fun w' => w'.cell? ⟨w.heap.size, 0, none⟩ = some (.int .i64 t) ∧ w'.cell? ⟨w.heap.size, 1, none⟩ = some (.int .i64 m) ∧ w'.cell? ⟨w.heap.size, 2, none⟩ = some (.int .i64 a) ∧ w'.cell? ⟨w.heap.size, 3, none⟩ = some (.int .i64 s) ∧ w'.cell? ⟨w.heap.size, 4, none⟩ = some (.int .i64 c) ∧ w'.cell? ⟨w.heap.size, 5, none⟩ = some (.int .i64 h))
    (first | (refine ⟨?_, ?_, ?_, ?_, ?_, ?_⟩ <;> (refine (xc _ _ ?_).trans ?_ <;> assumption)) | (refine ⟨?_, ?_, ?_, ?_, ?_, ?_⟩ <;> assumption) | go_keep)
    (first | (go_at_call 61; refine (l10Pitch_any t m a s c h _ v.bt v.bm).mono ?_; rintro e w1 ⟨rfl, x1⟩; (try clear xc xf xs); (first | replace x0 := x0.trans x1 | replace x0 := (x0.alloc _).trans x1 | replace x0 := (x0.drew).trans x1 | replace x0 := (x0.drew.alloc _).trans x1 | replace x0 := (x0.alloc _).drew.trans x1 | replace x0 := ((x0.alloc _).alloc _).trans x1 | have x0 := x1); clear x1; obtain ⟨xc, xf, xs⟩ := x0.cells))
  go_wp2
  go_ret
  exact ⟨rfl, hE.trans x0⟩
end Go.Proofs.Ytbhhiodbhlhpmaa
