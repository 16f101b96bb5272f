/-
  Contracts of the reach of an outside circle.
-/
import Derived.Test.YtbhhiodbhlhpmaaProf
namespace Go.Proofs.Ytbhhiodbhlhpmaa
open Go.RowKit
set_option linter.unusedSimpArgs false
set_option linter.unusedVariables false

/-- Does the outside circle reach beyond the base circle of the partner? -/
def bey (t m a s c h t9 m9 : Int) : Bool := decide (pitD t m * c * (pitD t m * c) + (pitD t m + pitD t9 m9) * s * ((pitD t m + pitD t9 m9) * s) < outD t m a * h * (outD t m a * h))
theorem sq_mul (x y : Int) : x * y * (x * y) = x * x * y * y := by simp only [Int.mul_assoc, Int.mul_left_comm, Int.mul_comm]
theorem sqb {x X : Int} (hx : 0 ≤ x ∧ x ≤ X) : 0 ≤ x * x ∧ x * x ≤ X * X := mul_bd hx hx

set_option maxHeartbeats 2000000 in
theorem l10Beyond_any (t m a s c h t9 m9 a9 s9 c9 h9 : Int) (w : World) (ht : 6 ≤ t ∧ t ≤ 240) (hm : 1 ≤ m ∧ m ≤ 500) (ha : 1 ≤ a ∧ a ≤ 20) (hs : 1 ≤ s ∧ s ≤ 1000) (hc : 1 ≤ c ∧ c ≤ 1000) (hh : 1 ≤ h ∧ h ≤ 1000) (ht9 : 6 ≤ t9 ∧ t9 ≤ 240) (hm9 : 1 ≤ m9 ∧ m9 ≤ 500) :
    Calls Try.prog 67 #[.agg #[.int .i64 t, .int .i64 m, .int .i64 a, .int .i64 s, .int .i64 c, .int .i64 h], .agg #[.int .i64 t9, .int .i64 m9, .int .i64 a9, .int .i64 s9, .int .i64 c9, .int .i64 h9]] w fun e w' => e = .returned (.bool (bey t m a s c h t9 m9)) ∧ Ext w w' := by
  have b1 := pitD_bd ht hm
  have b2 := pitD_bd ht9 hm9
  have b3 := outD_bd ht hm ha
  have y1 : 0 ≤ outD t m a * h ∧ outD t m a * h ≤ 1220000000 := by have := mul_bd (x := outD t m a) (y := h) (X := 1220000) (Y := 1000) (by omega) (by omega); omega
  have y2 : 0 ≤ pitD t m * c ∧ pitD t m * c ≤ 1200000000 := by have := mul_bd (x := pitD t m) (y := c) (X := 1200000) (Y := 1000) (by omega) (by omega); omega
  have y3 : 0 ≤ (pitD t m + pitD t9 m9) * s ∧ (pitD t m + pitD t9 m9) * s ≤ 2400000000 := by have := mul_bd (x := pitD t m + pitD t9 m9) (y := s) (X := 2400000) (Y := 1000) (by omega) (by omega); omega
  have d1 := sqb y1
  have d2 := sqb y2
  have d3 := sqb y3
  have q1 : IntKind.i64.wrap (outD t m a * h) = outD t m a * h := IntWalk.i64_in _ (by omega)
  have q2 : IntKind.i64.wrap (pitD t m * c) = pitD t m * c := IntWalk.i64_in _ (by omega)
  have q3 : IntKind.i64.wrap (pitD t m + pitD t9 m9) = pitD t m + pitD t9 m9 := IntWalk.i64_in _ (by omega)
  have q4 : IntKind.i64.wrap ((pitD t m + pitD t9 m9) * s) = (pitD t m + pitD t9 m9) * s := IntWalk.i64_in _ (by omega)
  clear b1 b2 b3
  go_enter Try.func67, Try.ntmps67
  go_wp2
  generalize hW : ((w.alloc (Obj.cells #[.int .i64 t, .int .i64 m, .int .i64 a, .int .i64 s, .int .i64 c, .int .i64 h] 35)).alloc (Obj.cells #[.int .i64 t9, .int .i64 m9, .int .i64 a9, .int .i64 s9, .int .i64 c9, .int .i64 h9] 35)) = W
  have hE : Ext w W := by rw [← hW]; exact (((Ext.refl _).alloc _).alloc _)
  have hl0 : w.heap.size < W.heap.size := by rw [← hW]; simp; try omega
  have hl1 : w.heap.size + 1 < W.heap.size := by rw [← hW]; simp; try omega
  have f0_0 : W.cell? ⟨w.heap.size, 0, none⟩ = some (.int .i64 t) := by rw [← hW]; simp
  have f0_1 : W.cell? ⟨w.heap.size, 1, none⟩ = some (.int .i64 m) := by rw [← hW]; simp
  have f0_2 : W.cell? ⟨w.heap.size, 2, none⟩ = some (.int .i64 a) := by rw [← hW]; simp
  have f0_3 : W.cell? ⟨w.heap.size, 3, none⟩ = some (.int .i64 s) := by rw [← hW]; simp
  have f0_4 : W.cell? ⟨w.heap.size, 4, none⟩ = some (.int .i64 c) := by rw [← hW]; simp
  have f0_5 : W.cell? ⟨w.heap.size, 5, none⟩ = some (.int .i64 h) := by rw [← hW]; simp
  have f1_0 : W.cell? ⟨w.heap.size + 1, 0, none⟩ = some (.int .i64 t9) := by rw [← hW]; simp
  have f1_1 : W.cell? ⟨w.heap.size + 1, 1, none⟩ = some (.int .i64 m9) := by rw [← hW]; simp
  have f1_2 : W.cell? ⟨w.heap.size + 1, 2, none⟩ = some (.int .i64 a9) := by rw [← hW]; simp
  have f1_3 : W.cell? ⟨w.heap.size + 1, 3, none⟩ = some (.int .i64 s9) := by rw [← hW]; simp
  have f1_4 : W.cell? ⟨w.heap.size + 1, 4, none⟩ = some (.int .i64 c9) := by rw [← hW]; simp
  have f1_5 : W.cell? ⟨w.heap.size + 1, 5, none⟩ = some (.int .i64 h9) := by rw [← hW]; simp
  clear hW
  have x0 := Ext.refl W
  go_region_held3 (fun w' => w'.cell? ⟨w.heap.size, 0, none⟩ = some (.int .i64 t) ∧ w'.cell? ⟨w.heap.size, 1, none⟩ = some (.int .i64 m) ∧ w'.cell? ⟨w.heap.size, 2, none⟩ = some (.int .i64 a) ∧ w'.cell? ⟨w.heap.size, 3, none⟩ = some (.int .i64 s) ∧ w'.cell? ⟨w.heap.size, 4, none⟩ = some (.int .i64 c) ∧ w'.cell? ⟨w.heap.size, 5, none⟩ = some (.int .i64 h) ∧ w'.cell? ⟨w.heap.size + 1, 0, none⟩ = some (.int .i64 t9) ∧ w'.cell? ⟨w.heap.size + 1, 1, none⟩ = some (.int .i64 m9) ∧ w'.cell? ⟨w.heap.size + 1, 2, none⟩ = some (.int .i64 a9) ∧ w'.cell? ⟨w.heap.size + 1, 3, none⟩ = some (.int .i64 s9) ∧ w'.cell? ⟨w.heap.size + 1, 4, none⟩ = some (.int .i64 c9) ∧ w'.cell? ⟨w.heap.size + 1, 5, none⟩ = some (.int .i64 h9))
    (first | (refine ⟨?_, ?_, ?_, ?_, ?_, ?_, ?_, ?_, ?_, ?_, ?_, ?_⟩ <;> (refine (xc _ _ ?_).trans ?_ <;> assumption)) | (refine ⟨?_, ?_, ?_, ?_, ?_, ?_, ?_, ?_, ?_, ?_, ?_, ?_⟩ <;> assumption) | go_keep)
    (first | (go_at_call 62; refine (l10Outside_any t m a s c h _ ht hm ha).mono ?_; rintro e w1 ⟨rfl, x1⟩; (try clear xc xf xs); (first | replace x0 := x0.trans x1 | replace x0 := (x0.alloc _).trans x1 | replace x0 := (x0.drew).trans x1 | replace x0 := ((x0.alloc _).alloc _).trans x1 | have x0 := x1); clear x1; obtain ⟨xc, xf, xs⟩ := x0.cells))
  go_wp2
  go_region_held3 (fun w' => w'.cell? ⟨w.heap.size, 0, none⟩ = some (.int .i64 t) ∧ w'.cell? ⟨w.heap.size, 1, none⟩ = some (.int .i64 m) ∧ w'.cell? ⟨w.heap.size, 2, none⟩ = some (.int .i64 a) ∧ w'.cell? ⟨w.heap.size, 3, none⟩ = some (.int .i64 s) ∧ w'.cell? ⟨w.heap.size, 4, none⟩ = some (.int .i64 c) ∧ w'.cell? ⟨w.heap.size, 5, none⟩ = some (.int .i64 h) ∧ w'.cell? ⟨w.heap.size + 1, 0, none⟩ = some (.int .i64 t9) ∧ w'.cell? ⟨w.heap.size + 1, 1, none⟩ = some (.int .i64 m9) ∧ w'.cell? ⟨w.heap.size + 1, 2, none⟩ = some (.int .i64 a9) ∧ w'.cell? ⟨w.heap.size + 1, 3, none⟩ = some (.int .i64 s9) ∧ w'.cell? ⟨w.heap.size + 1, 4, none⟩ = some (.int .i64 c9) ∧ w'.cell? ⟨w.heap.size + 1, 5, none⟩ = some (.int .i64 h9))
    (first | (refine ⟨?_, ?_, ?_, ?_, ?_, ?_, ?_, ?_, ?_, ?_, ?_, ?_⟩ <;> (refine (xc _ _ ?_).trans ?_ <;> assumption)) | (refine ⟨?_, ?_, ?_, ?_, ?_, ?_, ?_, ?_, ?_, ?_, ?_, ?_⟩ <;> assumption) | go_keep)
    (first | (go_at_call 61; refine (l10Pitch_any t m a s c h _ ht hm).mono ?_; rintro e w1 ⟨rfl, x1⟩; (try clear xc xf xs); (first | replace x0 := x0.trans x1 | replace x0 := (x0.alloc _).trans x1 | replace x0 := (x0.drew).trans x1 | replace x0 := ((x0.alloc _).alloc _).trans x1 | have x0 := x1); clear x1; obtain ⟨xc, xf, xs⟩ := x0.cells))
  go_wp2
  go_region_held3 (fun w' => w'.cell? ⟨w.heap.size, 0, none⟩ = some (.int .i64 t) ∧ w'.cell? ⟨w.heap.size, 1, none⟩ = some (.int .i64 m) ∧ w'.cell? ⟨w.heap.size, 2, none⟩ = some (.int .i64 a) ∧ w'.cell? ⟨w.heap.size, 3, none⟩ = some (.int .i64 s) ∧ w'.cell? ⟨w.heap.size, 4, none⟩ = some (.int .i64 c) ∧ w'.cell? ⟨w.heap.size, 5, none⟩ = some (.int .i64 h) ∧ w'.cell? ⟨w.heap.size + 1, 0, none⟩ = some (.int .i64 t9) ∧ w'.cell? ⟨w.heap.size + 1, 1, none⟩ = some (.int .i64 m9) ∧ w'.cell? ⟨w.heap.size + 1, 2, none⟩ = some (.int .i64 a9) ∧ w'.cell? ⟨w.heap.size + 1, 3, none⟩ = some (.int .i64 s9) ∧ w'.cell? ⟨w.heap.size + 1, 4, none⟩ = some (.int .i64 c9) ∧ w'.cell? ⟨w.heap.size + 1, 5, none⟩ = some (.int .i64 h9))
    (first | (refine ⟨?_, ?_, ?_, ?_, ?_, ?_, ?_, ?_, ?_, ?_, ?_, ?_⟩ <;> (refine (xc _ _ ?_).trans ?_ <;> assumption)) | (refine ⟨?_, ?_, ?_, ?_, ?_, ?_, ?_, ?_, ?_, ?_, ?_, ?_⟩ <;> assumption) | go_keep)
    (first | (go_at_call 61; refine (l10Pitch_any t m a s c h _ ht hm).mono ?_; rintro e w1 ⟨rfl, x1⟩; (try clear xc xf xs); (first | replace x0 := x0.trans x1 | replace x0 := (x0.alloc _).trans x1 | replace x0 := (x0.drew).trans x1 | replace x0 := ((x0.alloc _).alloc _).trans x1 | have x0 := x1); clear x1; obtain ⟨xc, xf, xs⟩ := x0.cells) | (go_at_call 61; refine (l10Pitch_any t9 m9 a9 s9 c9 h9 _ ht9 hm9).mono ?_; rintro e w1 ⟨rfl, x1⟩; (try clear xc xf xs); (first | replace x0 := x0.trans x1 | replace x0 := (x0.alloc _).trans x1 | replace x0 := (x0.drew).trans x1 | replace x0 := ((x0.alloc _).alloc _).trans x1 | have x0 := x1); clear x1; obtain ⟨xc, xf, xs⟩ := x0.cells))
  go_wp2
  go_ret
  exact ⟨rfl, hE.trans x0⟩

theorem bey_eq (t m a s c h t9 m9 : Int) : bey t m a s c h t9 m9 = decide (pitD t m * pitD t m * c * c + (pitD t m + pitD t9 m9) * (pitD t m + pitD t9 m9) * s * s < outD t m a * outD t m a * h * h) := by
  unfold bey
  rw [sq_mul, sq_mul, sq_mul]

set_option maxHeartbeats 2000000 in
theorem reaches_any (t m a s c h t9 m9 a9 s9 c9 h9 : Int) (w : World) (ht : 6 ≤ t ∧ t ≤ 240) (hm : 1 ≤ m ∧ m ≤ 500) (ha : 1 ≤ a ∧ a ≤ 20) (hs : 1 ≤ s ∧ s ≤ 1000) (hc : 1 ≤ c ∧ c ≤ 1000) (hh : 1 ≤ h ∧ h ≤ 1000) (ht9 : 6 ≤ t9 ∧ t9 ≤ 240) (hm9 : 1 ≤ m9 ∧ m9 ≤ 500) :
    Calls Try.prog 69 #[.agg #[.int .i64 t, .int .i64 m, .int .i64 a, .int .i64 s, .int .i64 c, .int .i64 h], .agg #[.int .i64 t9, .int .i64 m9, .int .i64 a9, .int .i64 s9, .int .i64 c9, .int .i64 h9]] w fun e w' => e = .returned (.bool (bey t m a s c h t9 m9)) ∧ Ext w w' := by
  have b1 := pitD_bd ht hm
  have b2 := pitD_bd ht9 hm9
  have b3 := outD_bd ht hm ha
  have u_h1 : 0 ≤ outD t m a * outD t m a ∧ outD t m a * outD t m a ≤ 1488400000000 := by have := mul_bd (x := outD t m a) (y := outD t m a) (X := 1220000) (Y := 1220000) (by omega) (by omega); omega
  have u_h2 : 0 ≤ outD t m a * outD t m a * h ∧ outD t m a * outD t m a * h ≤ 1488400000000000 := by have := mul_bd (x := outD t m a * outD t m a) (y := h) (X := 1488400000000) (Y := 1000) (by omega) (by omega); omega
  have u_h3 : 0 ≤ outD t m a * outD t m a * h * h ∧ outD t m a * outD t m a * h * h ≤ 1488400000000000000 := by have := mul_bd (x := outD t m a * outD t m a * h) (y := h) (X := 1488400000000000) (Y := 1000) (by omega) (by omega); omega
  have u_c1 : 0 ≤ pitD t m * pitD t m ∧ pitD t m * pitD t m ≤ 1440000000000 := by have := mul_bd (x := pitD t m) (y := pitD t m) (X := 1200000) (Y := 1200000) (by omega) (by omega); omega
  have u_c2 : 0 ≤ pitD t m * pitD t m * c ∧ pitD t m * pitD t m * c ≤ 1440000000000000 := by have := mul_bd (x := pitD t m * pitD t m) (y := c) (X := 1440000000000) (Y := 1000) (by omega) (by omega); omega
  have u_c3 : 0 ≤ pitD t m * pitD t m * c * c ∧ pitD t m * pitD t m * c * c ≤ 1440000000000000000 := by have := mul_bd (x := pitD t m * pitD t m * c) (y := c) (X := 1440000000000000) (Y := 1000) (by omega) (by omega); omega
  have u_s1 : 0 ≤ (pitD t m + pitD t9 m9) * (pitD t m + pitD t9 m9) ∧ (pitD t m + pitD t9 m9) * (pitD t m + pitD t9 m9) ≤ 5760000000000 := by have := mul_bd (x := (pitD t m + pitD t9 m9)) (y := (pitD t m + pitD t9 m9)) (X := 2400000) (Y := 2400000) (by omega) (by omega); omega
  have u_s2 : 0 ≤ (pitD t m + pitD t9 m9) * (pitD t m + pitD t9 m9) * s ∧ (pitD t m + pitD t9 m9) * (pitD t m + pitD t9 m9) * s ≤ 5760000000000000 := by have := mul_bd (x := (pitD t m + pitD t9 m9) * (pitD t m + pitD t9 m9)) (y := s) (X := 5760000000000) (Y := 1000) (by omega) (by omega); omega
  have u_s3 : 0 ≤ (pitD t m + pitD t9 m9) * (pitD t m + pitD t9 m9) * s * s ∧ (pitD t m + pitD t9 m9) * (pitD t m + pitD t9 m9) * s * s ≤ 5760000000000000000 := by have := mul_bd (x := (pitD t m + pitD t9 m9) * (pitD t m + pitD t9 m9) * s) (y := s) (X := 5760000000000000) (Y := 1000) (by omega) (by omega); omega
  have q3 : IntKind.i64.wrap (pitD t m + pitD t9 m9) = pitD t m + pitD t9 m9 := IntWalk.i64_in _ (by omega)
  have be := Lib.hid (bey_eq t m a s c h t9 m9)
  clear b1 b2 b3
  go_enter Try.func69, Try.ntmps69
  go_wp2
  generalize hW : ((w.alloc (Obj.cells #[.int .i64 t, .int .i64 m, .int .i64 a, .int .i64 s, .int .i64 c, .int .i64 h] 35)).alloc (Obj.cells #[.int .i64 t9, .int .i64 m9, .int .i64 a9, .int .i64 s9, .int .i64 c9, .int .i64 h9] 35)) = W
  have hE : Ext w W := by rw [← hW]; exact (((Ext.refl _).alloc _).alloc _)
  have hl0 : w.heap.size < W.heap.size := by rw [← hW]; simp; try omega
  have hl1 : w.heap.size + 1 < W.heap.size := by rw [← hW]; simp; try omega
  have f0_0 : W.cell? ⟨w.heap.size, 0, none⟩ = some (.int .i64 t) := by rw [← hW]; simp
  have f0_1 : W.cell? ⟨w.heap.size, 1, none⟩ = some (.int .i64 m) := by rw [← hW]; simp
  have f0_2 : W.cell? ⟨w.heap.size, 2, none⟩ = some (.int .i64 a) := by rw [← hW]; simp
  have f0_3 : W.cell? ⟨w.heap.size, 3, none⟩ = some (.int .i64 s) := by rw [← hW]; simp
  have f0_4 : W.cell? ⟨w.heap.size, 4, none⟩ = some (.int .i64 c) := by rw [← hW]; simp
  have f0_5 : W.cell? ⟨w.heap.size, 5, none⟩ = some (.int .i64 h) := by rw [← hW]; simp
  have f1_0 : W.cell? ⟨w.heap.size + 1, 0, none⟩ = some (.int .i64 t9) := by rw [← hW]; simp
  have f1_1 : W.cell? ⟨w.heap.size + 1, 1, none⟩ = some (.int .i64 m9) := by rw [← hW]; simp
  have f1_2 : W.cell? ⟨w.heap.size + 1, 2, none⟩ = some (.int .i64 a9) := by rw [← hW]; simp
  have f1_3 : W.cell? ⟨w.heap.size + 1, 3, none⟩ = some (.int .i64 s9) := by rw [← hW]; simp
  have f1_4 : W.cell? ⟨w.heap.size + 1, 4, none⟩ = some (.int .i64 c9) := by rw [← hW]; simp
  have f1_5 : W.cell? ⟨w.heap.size + 1, 5, none⟩ = some (.int .i64 h9) := by rw [← hW]; simp
  clear hW
  have x0 := Ext.refl W
  go_region_held3 (fun w' => w'.cell? ⟨w.heap.size, 0, none⟩ = some (.int .i64 t) ∧ w'.cell? ⟨w.heap.size, 1, none⟩ = some (.int .i64 m) ∧ w'.cell? ⟨w.heap.size, 2, none⟩ = some (.int .i64 a) ∧ w'.cell? ⟨w.heap.size, 3, none⟩ = some (.int .i64 s) ∧ w'.cell? ⟨w.heap.size, 4, none⟩ = some (.int .i64 c) ∧ w'.cell? ⟨w.heap.size, 5, none⟩ = some (.int .i64 h) ∧ w'.cell? ⟨w.heap.size + 1, 0, none⟩ = some (.int .i64 t9) ∧ w'.cell? ⟨w.heap.size + 1, 1, none⟩ = some (.int .i64 m9) ∧ w'.cell? ⟨w.heap.size + 1, 2, none⟩ = some (.int .i64 a9) ∧ w'.cell? ⟨w.heap.size + 1, 3, none⟩ = some (.int .i64 s9) ∧ w'.cell? ⟨w.heap.size + 1, 4, none⟩ = some (.int .i64 c9) ∧ w'.cell? ⟨w.heap.size + 1, 5, none⟩ = some (.int .i64 h9))
    (first | (refine ⟨?_, ?_, ?_, ?_, ?_, ?_, ?_, ?_, ?_, ?_, ?_, ?_⟩ <;> (refine (xc _ _ ?_).trans ?_ <;> assumption)) | (refine ⟨?_, ?_, ?_, ?_, ?_, ?_, ?_, ?_, ?_, ?_, ?_, ?_⟩ <;> assumption) | go_keep)
    (first | (go_at_call 64; refine (outsideOf_any t m a s c h _ ht hm ha).mono ?_; rintro e w1 ⟨rfl, x1⟩; (try clear xc xf xs); (first | replace x0 := x0.trans x1 | replace x0 := (x0.alloc _).trans x1 | replace x0 := (x0.drew).trans x1 | replace x0 := ((x0.alloc _).alloc _).trans x1 | have x0 := x1); clear x1; obtain ⟨xc, xf, xs⟩ := x0.cells) | (go_at_call 63; refine (pitchOf_any t m a s c h _ ht hm).mono ?_; rintro e w1 ⟨rfl, x1⟩; (try clear xc xf xs); (first | replace x0 := x0.trans x1 | replace x0 := (x0.alloc _).trans x1 | replace x0 := (x0.drew).trans x1 | replace x0 := ((x0.alloc _).alloc _).trans x1 | have x0 := x1); clear x1; obtain ⟨xc, xf, xs⟩ := x0.cells) | (go_at_call 63; refine (pitchOf_any t9 m9 a9 s9 c9 h9 _ ht9 hm9).mono ?_; rintro e w1 ⟨rfl, x1⟩; (try clear xc xf xs); (first | replace x0 := x0.trans x1 | replace x0 := (x0.alloc _).trans x1 | replace x0 := (x0.drew).trans x1 | replace x0 := ((x0.alloc _).alloc _).trans x1 | have x0 := x1); clear x1; obtain ⟨xc, xf, xs⟩ := x0.cells))
  go_wp2
  go_ret
  exact ⟨ret_bool be.out.symm, ((hE.trans x0).alloc _)⟩

end Go.Proofs.Ytbhhiodbhlhpmaa
