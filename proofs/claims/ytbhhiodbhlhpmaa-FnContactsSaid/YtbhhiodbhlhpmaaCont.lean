/-
  Contracts of the bounds of a contact ratio, and the walk of the exact law.
-/
import Derived.Test.YtbhhiodbhlhpmaaSide
import Derived.Test.YtbhhiodbhlhpmaaMatch
namespace Go.Proofs.Ytbhhiodbhlhpmaa
open Go.RowKit
set_option linter.unusedSimpArgs false
set_option linter.unusedVariables false


set_option maxHeartbeats 4000000 in
theorem implContact_any (t m a s c h t9 m9 a9 s9 c9 h9 : Int) (w : World) :
    Calls Try.prog 45 #[.agg #[.int .i64 t, .int .i64 m, .int .i64 a, .int .i64 s, .int .i64 c, .int .i64 h], .agg #[.int .i64 t9, .int .i64 m9, .int .i64 a9, .int .i64 s9, .int .i64 c9, .int .i64 h9]] w fun e w' => e = .returned (.tuple #[.int .i64 (cbL t m a s c h t9 m9 a9 s9 c9 h9), .int .i64 (cbH t m a s c h t9 m9 a9 s9 c9 h9), .int .i64 (matC t m a s c h t9 m9 a9 s9 c9 h9)]) ∧ Ext w w' := by
  by_cases hc : matC t m a s c h t9 m9 a9 s9 c9 h9 = 0
  · obtain ⟨v1, v2, rfl, rfl, rfl, rfl⟩ := matC_ok hc
    have v := vProf_iff.1 v1
    have v9 := vProf_iff.1 v2
    have H := Lib.hid hc
    have f0 : (matC t m a s c h t9 m a9 s c h != 0) = false := by rw [hc]; rfl
    have b1 := (root_sid v).2
    have b2 := (root_sid v9).2
    have b3 := (up_sid v).2
    have b4 := (up_sid v9).2
    have b5 := (sid_bd v).2
    have b6 := (sid_bd v9).2
    have b7 := pitD_bd v.bt v.bm
    have b8 := pitD_bd v9.bt v9.bm
    have b9 := v.bm
    have b10 := v.bc
    have b11 := v.bs
    have y1 : 0 ≤ (pitD t m + pitD t9 m) * s ∧ (pitD t m + pitD t9 m) * s ≤ 2400000000 := by have := mul_bd (x := pitD t m + pitD t9 m) (y := s) (X := 2400000) (Y := 1000) (by omega) (by omega); omega
    have y2 : 20 ≤ 20 * m * c ∧ 20 * m * c ≤ 10000000 := stp_bd v.bm v.bc
    have q1 : IntKind.i64.wrap ((pitD t m + pitD t9 m) * s) = (pitD t m + pitD t9 m) * s := IntWalk.i64_in _ (by omega)
    have q2 : IntKind.i64.wrap (20 * m * c) = 20 * m * c := IntWalk.i64_in _ (by omega)
    have e1 := Lib.hid (show cbL t m a s c h t9 m a9 s c h = loQ t m a s c h t9 a9 by simp [cbL, hc])
    have e2 := Lib.hid (show cbH t m a s c h t9 m a9 s c h = hiQ t m a s c h t9 a9 by simp [cbH, hc])
    clear hc v1 v2
    go_enter Try.func45, Try.ntmps45
    go_upto_region 1 with fail
    generalize hW : ((w.alloc (Obj.cells #[.int .i64 t, .int .i64 m, .int .i64 a, .int .i64 s, .int .i64 c, .int .i64 h] 35)).alloc (Obj.cells #[.int .i64 t9, .int .i64 m, .int .i64 a9, .int .i64 s, .int .i64 c, .int .i64 h] 35)) = W
    have hE : Ext w W := by rw [← hW]; exact (((Ext.refl _).alloc _).alloc _)
    have hl0 : w.heap.size < W.heap.size := by rw [← hW]; simp; try omega
    have hl1 : w.heap.size + 1 < W.heap.size := by rw [← hW]; simp; try omega
    have f0_0 : W.cell? ⟨w.heap.size, 0, none⟩ = some (.int .i64 t) := by rw [← hW]; simp
    have f0_1 : W.cell? ⟨w.heap.size, 1, none⟩ = some (.int .i64 m) := by rw [← hW]; simp
    have f0_2 : W.cell? ⟨w.heap.size, 2, none⟩ = some (.int .i64 a) := by rw [← hW]; simp
    have f0_3 : W.cell? ⟨w.heap.size, 3, none⟩ = some (.int .i64 s) := by rw [← hW]; simp
    have f0_4 : W.cell? ⟨w.heap.size, 4, none⟩ = some (.int .i64 c) := by rw [← hW]; simp
    have f0_5 : W.cell? ⟨w.heap.size, 5, none⟩ = some (.int .i64 h) := by rw [← hW]; simp
    have f1_0 : W.cell? ⟨w.heap.size + 1, 0, none⟩ = some (.int .i64 t9) := by rw [← hW]; simp
    have f1_1 : W.cell? ⟨w.heap.size + 1, 1, none⟩ = some (.int .i64 m) := by rw [← hW]; simp
    have f1_2 : W.cell? ⟨w.heap.size + 1, 2, none⟩ = some (.int .i64 a9) := by rw [← hW]; simp
    have f1_3 : W.cell? ⟨w.heap.size + 1, 3, none⟩ = some (.int .i64 s) := by rw [← hW]; simp
    have f1_4 : W.cell? ⟨w.heap.size + 1, 4, none⟩ = some (.int .i64 c) := by rw [← hW]; simp
    have f1_5 : W.cell? ⟨w.heap.size + 1, 5, none⟩ = some (.int .i64 h) := by rw [← hW]; simp
    clear hW
    have x0 := Ext.refl W
    go_upto_region 4 with (first | (go_at_call 68; ((with_reducible refine (matching_any t m a s c h t9 m a9 s c h _).mono ?_); rintro e w1 ⟨rfl, x1⟩; (try clear xc xf xs); (first | replace x0 := x0.trans x1 | replace x0 := (x0.alloc _).trans x1 | replace x0 := (x0.drew).trans x1 | replace x0 := (x0.drew.alloc _).trans x1 | replace x0 := (x0.alloc _).drew.trans x1 | replace x0 := ((x0.alloc _).alloc _).trans x1 | have x0 := x1); clear x1; obtain ⟨xc, xf, xs⟩ := x0.cells)))
    go_region_held3 (fun w' => w'.cell? ⟨w.heap.size, 0, none⟩ = some (.int .i64 t) ∧ w'.cell? ⟨w.heap.size, 1, none⟩ = some (.int .i64 m) ∧ w'.cell? ⟨w.heap.size, 2, none⟩ = some (.int .i64 a) ∧ w'.cell? ⟨w.heap.size, 3, none⟩ = some (.int .i64 s) ∧ w'.cell? ⟨w.heap.size, 4, none⟩ = some (.int .i64 c) ∧ w'.cell? ⟨w.heap.size, 5, none⟩ = some (.int .i64 h) ∧ w'.cell? ⟨w.heap.size + 1, 0, none⟩ = some (.int .i64 t9) ∧ w'.cell? ⟨w.heap.size + 1, 1, none⟩ = some (.int .i64 m) ∧ w'.cell? ⟨w.heap.size + 1, 2, none⟩ = some (.int .i64 a9) ∧ w'.cell? ⟨w.heap.size + 1, 3, none⟩ = some (.int .i64 s) ∧ w'.cell? ⟨w.heap.size + 1, 4, none⟩ = some (.int .i64 c) ∧ w'.cell? ⟨w.heap.size + 1, 5, none⟩ = some (.int .i64 h))
      (first | (refine ⟨?_, ?_, ?_, ?_, ?_, ?_, ?_, ?_, ?_, ?_, ?_, ?_⟩ <;> (refine (xc _ _ ?_).trans ?_ <;> assumption)) | (refine ⟨?_, ?_, ?_, ?_, ?_, ?_, ?_, ?_, ?_, ?_, ?_, ?_⟩ <;> assumption) | go_keep)
      (first | (go_at_call 78; ((with_reducible refine (baseSide_any t m a s c h _ v).mono ?_); rintro e w1 ⟨rfl, x1⟩; (try clear xc xf xs); (first | replace x0 := x0.trans x1 | replace x0 := (x0.alloc _).trans x1 | replace x0 := (x0.drew).trans x1 | replace x0 := (x0.drew.alloc _).trans x1 | replace x0 := (x0.alloc _).drew.trans x1 | replace x0 := ((x0.alloc _).alloc _).trans x1 | have x0 := x1); clear x1; obtain ⟨xc, xf, xs⟩ := x0.cells)) | (go_at_call 78; ((with_reducible refine (baseSide_any t9 m a9 s c h _ v9).mono ?_); rintro e w1 ⟨rfl, x1⟩; (try clear xc xf xs); (first | replace x0 := x0.trans x1 | replace x0 := (x0.alloc _).trans x1 | replace x0 := (x0.drew).trans x1 | replace x0 := (x0.drew.alloc _).trans x1 | replace x0 := (x0.alloc _).drew.trans x1 | replace x0 := ((x0.alloc _).alloc _).trans x1 | have x0 := x1); clear x1; obtain ⟨xc, xf, xs⟩ := x0.cells)))
    go_upto_region 5 with fail
    go_region_held3 (fun w' => w'.cell? ⟨w.heap.size, 0, none⟩ = some (.int .i64 t) ∧ w'.cell? ⟨w.heap.size, 1, none⟩ = some (.int .i64 m) ∧ w'.cell? ⟨w.heap.size, 2, none⟩ = some (.int .i64 a) ∧ w'.cell? ⟨w.heap.size, 3, none⟩ = some (.int .i64 s) ∧ w'.cell? ⟨w.heap.size, 4, none⟩ = some (.int .i64 c) ∧ w'.cell? ⟨w.heap.size, 5, none⟩ = some (.int .i64 h) ∧ w'.cell? ⟨w.heap.size + 1, 0, none⟩ = some (.int .i64 t9) ∧ w'.cell? ⟨w.heap.size + 1, 1, none⟩ = some (.int .i64 m) ∧ w'.cell? ⟨w.heap.size + 1, 2, none⟩ = some (.int .i64 a9) ∧ w'.cell? ⟨w.heap.size + 1, 3, none⟩ = some (.int .i64 s) ∧ w'.cell? ⟨w.heap.size + 1, 4, none⟩ = some (.int .i64 c) ∧ w'.cell? ⟨w.heap.size + 1, 5, none⟩ = some (.int .i64 h))
      (first | (refine ⟨?_, ?_, ?_, ?_, ?_, ?_, ?_, ?_, ?_, ?_, ?_, ?_⟩ <;> (refine (xc _ _ ?_).trans ?_ <;> assumption)) | (refine ⟨?_, ?_, ?_, ?_, ?_, ?_, ?_, ?_, ?_, ?_, ?_, ?_⟩ <;> assumption) | go_keep)
      (first | (go_at_call 63; ((with_reducible refine (pitchOf_any t m a s c h _ v.bt v.bm).mono ?_); rintro e w1 ⟨rfl, x1⟩; (try clear xc xf xs); (first | replace x0 := x0.trans x1 | replace x0 := (x0.alloc _).trans x1 | replace x0 := (x0.drew).trans x1 | replace x0 := (x0.drew.alloc _).trans x1 | replace x0 := (x0.alloc _).drew.trans x1 | replace x0 := ((x0.alloc _).alloc _).trans x1 | have x0 := x1); clear x1; obtain ⟨xc, xf, xs⟩ := x0.cells)) | (go_at_call 63; ((with_reducible refine (pitchOf_any t9 m a9 s c h _ v9.bt v9.bm).mono ?_); rintro e w1 ⟨rfl, x1⟩; (try clear xc xf xs); (first | replace x0 := x0.trans x1 | replace x0 := (x0.alloc _).trans x1 | replace x0 := (x0.drew).trans x1 | replace x0 := (x0.drew.alloc _).trans x1 | replace x0 := (x0.alloc _).drew.trans x1 | replace x0 := ((x0.alloc _).alloc _).trans x1 | have x0 := x1); clear x1; obtain ⟨xc, xf, xs⟩ := x0.cells)))
    have g0_1 := (xc _ _ hl0).trans f0_1
    have g0_4 := (xc _ _ hl0).trans f0_4
    go_wp2_with (first | (go_at_call 79; refine (rootOf_any _ _ (by omega)).mono ?_; rintro e w1 ⟨rfl, rfl⟩) | (go_at_call 80; refine (rootUp_any _ _ (by omega)).mono ?_; rintro e w1 ⟨rfl, rfl⟩) | (go_at_call 54; refine (floorDiv_any _ _ _ (by omega) (by omega)).mono ?_; rintro e w1 ⟨rfl, rfl⟩) | (go_at_call 55; refine (ceilDiv_any _ _ _ (by omega) (by omega)).mono ?_; rintro e w1 ⟨rfl, rfl⟩))
    go_ret3
    exact ⟨ret3 (by rw [e1.out]; unfold loQ loN linD stpD; first | rfl | (refine congrArg (fun z => z / _) ?_; omega)) (by rw [e2.out]; unfold hiQ hiN linD stpD; first | rfl | (refine congrArg Neg.neg (congrArg (fun z => z / _) ?_); omega)) (by first | exact H.out.symm | rfl), hE.trans x0⟩
  · have f0 : (matC t m a s c h t9 m9 a9 s9 c9 h9 != 0) = true := by simpa using hc
    have e1 := Lib.hid (show 0 = cbL t m a s c h t9 m9 a9 s9 c9 h9 by simp [cbL, hc])
    have e2 := Lib.hid (show 0 = cbH t m a s c h t9 m9 a9 s9 c9 h9 by simp [cbH, hc])
    clear hc
    go_enter Try.func45, Try.ntmps45
    go_wp2_with ((go_at_call 68; ((with_reducible refine (matching_any t m a s c h t9 m9 a9 s9 c9 h9 _).mono ?_); rintro e w1 ⟨rfl, x1⟩; (try clear xc xf xs); (first | replace x0 := x0.trans x1 | replace x0 := (x0.alloc _).trans x1 | replace x0 := (x0.drew).trans x1 | replace x0 := (x0.drew.alloc _).trans x1 | replace x0 := (x0.alloc _).drew.trans x1 | replace x0 := ((x0.alloc _).alloc _).trans x1 | have x0 := x1); clear x1; obtain ⟨xc, xf, xs⟩ := x0.cells)))
    go_ret3
    exact ⟨ret3 e1.out e2.out rfl, (((Ext.refl _).alloc _).alloc _).trans x0⟩

set_option maxHeartbeats 4000000 in
theorem specContact_any (t m a s c h t9 m9 a9 s9 c9 h9 : Int) (w : World) :
    Calls Try.prog 44 #[.agg #[.int .i64 t, .int .i64 m, .int .i64 a, .int .i64 s, .int .i64 c, .int .i64 h], .agg #[.int .i64 t9, .int .i64 m9, .int .i64 a9, .int .i64 s9, .int .i64 c9, .int .i64 h9]] w fun e w' => e = .returned (.tuple #[.int .i64 (cbL t m a s c h t9 m9 a9 s9 c9 h9), .int .i64 (cbH t m a s c h t9 m9 a9 s9 c9 h9), .int .i64 (matC t m a s c h t9 m9 a9 s9 c9 h9)]) ∧ Ext w w' := by
  by_cases hc : matC t m a s c h t9 m9 a9 s9 c9 h9 = 0
  · obtain ⟨v1, v2, rfl, rfl, rfl, rfl⟩ := matC_ok hc
    have v := vProf_iff.1 v1
    have v9 := vProf_iff.1 v2
    have H := Lib.hid hc
    have f0 : (matC t m a s c h t9 m a9 s c h != 0) = false := by rw [hc]; rfl
    have b1 := (root_sid v).2
    have b2 := (root_sid v9).2
    have b3 := (up_sid v).2
    have b4 := (up_sid v9).2
    have b5 := (sid_bd v).2
    have b6 := (sid_bd v9).2
    have b7 := pitD_bd v.bt v.bm
    have b8 := pitD_bd v9.bt v9.bm
    have b9 := v.bm
    have b10 := v.bc
    have b11 := v.bs
    have y1 : 0 ≤ (pitD t m + pitD t9 m) * s ∧ (pitD t m + pitD t9 m) * s ≤ 2400000000 := by have := mul_bd (x := pitD t m + pitD t9 m) (y := s) (X := 2400000) (Y := 1000) (by omega) (by omega); omega
    have y2 : 20 ≤ 20 * m * c ∧ 20 * m * c ≤ 10000000 := stp_bd v.bm v.bc
    have q1 : IntKind.i64.wrap ((pitD t m + pitD t9 m) * s) = (pitD t m + pitD t9 m) * s := IntWalk.i64_in _ (by omega)
    have q2 : IntKind.i64.wrap (20 * m * c) = 20 * m * c := IntWalk.i64_in _ (by omega)
    have e1 := Lib.hid (show cbL t m a s c h t9 m a9 s c h = loQ t m a s c h t9 a9 by simp [cbL, hc])
    have e2 := Lib.hid (show cbH t m a s c h t9 m a9 s c h = hiQ t m a s c h t9 a9 by simp [cbH, hc])
    have z1 := ediv_in (-1000 * (upI (sidS t m a c h) + upI (sidS t9 m a9 c h) - (pitD t m + pitD t9 m) * s) * 33102) (20 * m * c * 103993) (by omega) (by omega) (by omega)
    clear hc v1 v2
    go_enter Try.func44, Try.ntmps44
    go_upto_region 1 with fail
    generalize hW : ((w.alloc (Obj.cells #[.int .i64 t, .int .i64 m, .int .i64 a, .int .i64 s, .int .i64 c, .int .i64 h] 35)).alloc (Obj.cells #[.int .i64 t9, .int .i64 m, .int .i64 a9, .int .i64 s, .int .i64 c, .int .i64 h] 35)) = W
    have hE : Ext w W := by rw [← hW]; exact (((Ext.refl _).alloc _).alloc _)
    have hl0 : w.heap.size < W.heap.size := by rw [← hW]; simp; try omega
    have hl1 : w.heap.size + 1 < W.heap.size := by rw [← hW]; simp; try omega
    have f0_0 : W.cell? ⟨w.heap.size, 0, none⟩ = some (.int .i64 t) := by rw [← hW]; simp
    have f0_1 : W.cell? ⟨w.heap.size, 1, none⟩ = some (.int .i64 m) := by rw [← hW]; simp
    have f0_2 : W.cell? ⟨w.heap.size, 2, none⟩ = some (.int .i64 a) := by rw [← hW]; simp
    have f0_3 : W.cell? ⟨w.heap.size, 3, none⟩ = some (.int .i64 s) := by rw [← hW]; simp
    have f0_4 : W.cell? ⟨w.heap.size, 4, none⟩ = some (.int .i64 c) := by rw [← hW]; simp
    have f0_5 : W.cell? ⟨w.heap.size, 5, none⟩ = some (.int .i64 h) := by rw [← hW]; simp
    have f1_0 : W.cell? ⟨w.heap.size + 1, 0, none⟩ = some (.int .i64 t9) := by rw [← hW]; simp
    have f1_1 : W.cell? ⟨w.heap.size + 1, 1, none⟩ = some (.int .i64 m) := by rw [← hW]; simp
    have f1_2 : W.cell? ⟨w.heap.size + 1, 2, none⟩ = some (.int .i64 a9) := by rw [← hW]; simp
    have f1_3 : W.cell? ⟨w.heap.size + 1, 3, none⟩ = some (.int .i64 s) := by rw [← hW]; simp
    have f1_4 : W.cell? ⟨w.heap.size + 1, 4, none⟩ = some (.int .i64 c) := by rw [← hW]; simp
    have f1_5 : W.cell? ⟨w.heap.size + 1, 5, none⟩ = some (.int .i64 h) := by rw [← hW]; simp
    clear hW
    have x0 := Ext.refl W
    go_upto_region 4 with (first | (go_at_call 66; ((with_reducible refine (l10Two_any t m a s c h t9 m a9 s c h _).mono ?_); rintro e w1 ⟨rfl, x1⟩; (try clear xc xf xs); (first | replace x0 := x0.trans x1 | replace x0 := (x0.alloc _).trans x1 | replace x0 := (x0.drew).trans x1 | replace x0 := (x0.drew.alloc _).trans x1 | replace x0 := (x0.alloc _).drew.trans x1 | replace x0 := ((x0.alloc _).alloc _).trans x1 | have x0 := x1); clear x1; obtain ⟨xc, xf, xs⟩ := x0.cells)))
    go_region_held3 (fun w' => w'.cell? ⟨w.heap.size, 0, none⟩ = some (.int .i64 t) ∧ w'.cell? ⟨w.heap.size, 1, none⟩ = some (.int .i64 m) ∧ w'.cell? ⟨w.heap.size, 2, none⟩ = some (.int .i64 a) ∧ w'.cell? ⟨w.heap.size, 3, none⟩ = some (.int .i64 s) ∧ w'.cell? ⟨w.heap.size, 4, none⟩ = some (.int .i64 c) ∧ w'.cell? ⟨w.heap.size, 5, none⟩ = some (.int .i64 h) ∧ w'.cell? ⟨w.heap.size + 1, 0, none⟩ = some (.int .i64 t9) ∧ w'.cell? ⟨w.heap.size + 1, 1, none⟩ = some (.int .i64 m) ∧ w'.cell? ⟨w.heap.size + 1, 2, none⟩ = some (.int .i64 a9) ∧ w'.cell? ⟨w.heap.size + 1, 3, none⟩ = some (.int .i64 s) ∧ w'.cell? ⟨w.heap.size + 1, 4, none⟩ = some (.int .i64 c) ∧ w'.cell? ⟨w.heap.size + 1, 5, none⟩ = some (.int .i64 h))
      (first | (refine ⟨?_, ?_, ?_, ?_, ?_, ?_, ?_, ?_, ?_, ?_, ?_, ?_⟩ <;> (refine (xc _ _ ?_).trans ?_ <;> assumption)) | (refine ⟨?_, ?_, ?_, ?_, ?_, ?_, ?_, ?_, ?_, ?_, ?_, ?_⟩ <;> assumption) | go_keep)
      (first | (go_at_call 61; ((with_reducible refine (l10Pitch_any t m a s c h _ v.bt v.bm).mono ?_); rintro e w1 ⟨rfl, x1⟩; (try clear xc xf xs); (first | replace x0 := x0.trans x1 | replace x0 := (x0.alloc _).trans x1 | replace x0 := (x0.drew).trans x1 | replace x0 := (x0.drew.alloc _).trans x1 | replace x0 := (x0.alloc _).drew.trans x1 | replace x0 := ((x0.alloc _).alloc _).trans x1 | have x0 := x1); clear x1; obtain ⟨xc, xf, xs⟩ := x0.cells)) | (go_at_call 61; ((with_reducible refine (l10Pitch_any t9 m a9 s c h _ v9.bt v9.bm).mono ?_); rintro e w1 ⟨rfl, x1⟩; (try clear xc xf xs); (first | replace x0 := x0.trans x1 | replace x0 := (x0.alloc _).trans x1 | replace x0 := (x0.drew).trans x1 | replace x0 := (x0.drew.alloc _).trans x1 | replace x0 := (x0.alloc _).drew.trans x1 | replace x0 := ((x0.alloc _).alloc _).trans x1 | have x0 := x1); clear x1; obtain ⟨xc, xf, xs⟩ := x0.cells)))
    go_upto_region 5 with fail
    go_region_held3 (fun w' => w'.cell? ⟨w.heap.size, 0, none⟩ = some (.int .i64 t) ∧ w'.cell? ⟨w.heap.size, 1, none⟩ = some (.int .i64 m) ∧ w'.cell? ⟨w.heap.size, 2, none⟩ = some (.int .i64 a) ∧ w'.cell? ⟨w.heap.size, 3, none⟩ = some (.int .i64 s) ∧ w'.cell? ⟨w.heap.size, 4, none⟩ = some (.int .i64 c) ∧ w'.cell? ⟨w.heap.size, 5, none⟩ = some (.int .i64 h) ∧ w'.cell? ⟨w.heap.size + 1, 0, none⟩ = some (.int .i64 t9) ∧ w'.cell? ⟨w.heap.size + 1, 1, none⟩ = some (.int .i64 m) ∧ w'.cell? ⟨w.heap.size + 1, 2, none⟩ = some (.int .i64 a9) ∧ w'.cell? ⟨w.heap.size + 1, 3, none⟩ = some (.int .i64 s) ∧ w'.cell? ⟨w.heap.size + 1, 4, none⟩ = some (.int .i64 c) ∧ w'.cell? ⟨w.heap.size + 1, 5, none⟩ = some (.int .i64 h))
      (first | (refine ⟨?_, ?_, ?_, ?_, ?_, ?_, ?_, ?_, ?_, ?_, ?_, ?_⟩ <;> (refine (xc _ _ ?_).trans ?_ <;> assumption)) | (refine ⟨?_, ?_, ?_, ?_, ?_, ?_, ?_, ?_, ?_, ?_, ?_, ?_⟩ <;> assumption) | go_keep)
      (first | (go_at_call 76; ((with_reducible refine (l10Square_any t m a s c h _ v).mono ?_); rintro e w1 ⟨rfl, x1⟩; (try clear xc xf xs); (first | replace x0 := x0.trans x1 | replace x0 := (x0.alloc _).trans x1 | replace x0 := (x0.drew).trans x1 | replace x0 := (x0.drew.alloc _).trans x1 | replace x0 := (x0.alloc _).drew.trans x1 | replace x0 := ((x0.alloc _).alloc _).trans x1 | have x0 := x1); clear x1; obtain ⟨xc, xf, xs⟩ := x0.cells)) | (go_at_call 76; ((with_reducible refine (l10Square_any t9 m a9 s c h _ v9).mono ?_); rintro e w1 ⟨rfl, x1⟩; (try clear xc xf xs); (first | replace x0 := x0.trans x1 | replace x0 := (x0.alloc _).trans x1 | replace x0 := (x0.drew).trans x1 | replace x0 := (x0.drew.alloc _).trans x1 | replace x0 := (x0.alloc _).drew.trans x1 | replace x0 := ((x0.alloc _).alloc _).trans x1 | have x0 := x1); clear x1; obtain ⟨xc, xf, xs⟩ := x0.cells)) | (go_at_call 75; refine (l10Root_any _ _ (by omega)).mono ?_; rintro e w1 ⟨rfl, rfl⟩))
    go_upto_region 6 with fail
    go_region_held3 (fun w' => w'.cell? ⟨w.heap.size, 0, none⟩ = some (.int .i64 t) ∧ w'.cell? ⟨w.heap.size, 1, none⟩ = some (.int .i64 m) ∧ w'.cell? ⟨w.heap.size, 2, none⟩ = some (.int .i64 a) ∧ w'.cell? ⟨w.heap.size, 3, none⟩ = some (.int .i64 s) ∧ w'.cell? ⟨w.heap.size, 4, none⟩ = some (.int .i64 c) ∧ w'.cell? ⟨w.heap.size, 5, none⟩ = some (.int .i64 h) ∧ w'.cell? ⟨w.heap.size + 1, 0, none⟩ = some (.int .i64 t9) ∧ w'.cell? ⟨w.heap.size + 1, 1, none⟩ = some (.int .i64 m) ∧ w'.cell? ⟨w.heap.size + 1, 2, none⟩ = some (.int .i64 a9) ∧ w'.cell? ⟨w.heap.size + 1, 3, none⟩ = some (.int .i64 s) ∧ w'.cell? ⟨w.heap.size + 1, 4, none⟩ = some (.int .i64 c) ∧ w'.cell? ⟨w.heap.size + 1, 5, none⟩ = some (.int .i64 h))
      (first | (refine ⟨?_, ?_, ?_, ?_, ?_, ?_, ?_, ?_, ?_, ?_, ?_, ?_⟩ <;> (refine (xc _ _ ?_).trans ?_ <;> assumption)) | (refine ⟨?_, ?_, ?_, ?_, ?_, ?_, ?_, ?_, ?_, ?_, ?_, ?_⟩ <;> assumption) | go_keep)
      (first | (go_at_call 76; ((with_reducible refine (l10Square_any t m a s c h _ v).mono ?_); rintro e w1 ⟨rfl, x1⟩; (try clear xc xf xs); (first | replace x0 := x0.trans x1 | replace x0 := (x0.alloc _).trans x1 | replace x0 := (x0.drew).trans x1 | replace x0 := (x0.drew.alloc _).trans x1 | replace x0 := (x0.alloc _).drew.trans x1 | replace x0 := ((x0.alloc _).alloc _).trans x1 | have x0 := x1); clear x1; obtain ⟨xc, xf, xs⟩ := x0.cells)) | (go_at_call 76; ((with_reducible refine (l10Square_any t9 m a9 s c h _ v9).mono ?_); rintro e w1 ⟨rfl, x1⟩; (try clear xc xf xs); (first | replace x0 := x0.trans x1 | replace x0 := (x0.alloc _).trans x1 | replace x0 := (x0.drew).trans x1 | replace x0 := (x0.drew.alloc _).trans x1 | replace x0 := (x0.alloc _).drew.trans x1 | replace x0 := ((x0.alloc _).alloc _).trans x1 | have x0 := x1); clear x1; obtain ⟨xc, xf, xs⟩ := x0.cells)) | (go_at_call 77; refine (l10Above_any _ _ (by omega)).mono ?_; rintro e w1 ⟨rfl, rfl⟩))
    have g0_1 := (xc _ _ hl0).trans f0_1
    have g0_4 := (xc _ _ hl0).trans f0_4
    go_wp2_with (first | (go_at_call 65; refine (l02Down_any _ _ _ (by omega) (by omega)).mono ?_; rintro e w1 ⟨rfl, rfl⟩))
    go_ret3
    exact ⟨ret3 (by rw [e1.out]; unfold loQ loN linD stpD; first | rfl | (refine congrArg (fun z => z / _) ?_; omega)) (by rw [e2.out]; unfold hiQ hiN linD stpD; first | rfl | (refine congrArg Neg.neg (congrArg (fun z => z / _) ?_); omega)) (by first | exact H.out.symm | rfl), hE.trans x0⟩
  · have f0 : (matC t m a s c h t9 m9 a9 s9 c9 h9 != 0) = true := by simpa using hc
    have e1 := Lib.hid (show 0 = cbL t m a s c h t9 m9 a9 s9 c9 h9 by simp [cbL, hc])
    have e2 := Lib.hid (show 0 = cbH t m a s c h t9 m9 a9 s9 c9 h9 by simp [cbH, hc])
    clear hc
    go_enter Try.func44, Try.ntmps44
    go_wp2_with ((go_at_call 66; ((with_reducible refine (l10Two_any t m a s c h t9 m9 a9 s9 c9 h9 _).mono ?_); rintro e w1 ⟨rfl, x1⟩; (try clear xc xf xs); (first | replace x0 := x0.trans x1 | replace x0 := (x0.alloc _).trans x1 | replace x0 := (x0.drew).trans x1 | replace x0 := (x0.drew.alloc _).trans x1 | replace x0 := (x0.alloc _).drew.trans x1 | replace x0 := ((x0.alloc _).alloc _).trans x1 | have x0 := x1); clear x1; obtain ⟨xc, xf, xs⟩ := x0.cells)))
    go_ret3
    exact ⟨ret3 e1.out e2.out rfl, (((Ext.refl _).alloc _).alloc _).trans x0⟩

set_option maxHeartbeats 2000000 in
theorem contact_walk (t m a s c h t9 m9 a9 s9 c9 h9 : Int) (w : World) (b0 : -9223372036854775808 ≤ t ∧ t ≤ 9223372036854775807) (b1 : -9223372036854775808 ≤ m ∧ m ≤ 9223372036854775807) (b2 : -9223372036854775808 ≤ a ∧ a ≤ 9223372036854775807) (b3 : -9223372036854775808 ≤ s ∧ s ≤ 9223372036854775807) (b4 : -9223372036854775808 ≤ c ∧ c ≤ 9223372036854775807) (b5 : -9223372036854775808 ≤ h ∧ h ≤ 9223372036854775807) (b6 : -9223372036854775808 ≤ t9 ∧ t9 ≤ 9223372036854775807) (b7 : -9223372036854775808 ≤ m9 ∧ m9 ≤ 9223372036854775807) (b8 : -9223372036854775808 ≤ a9 ∧ a9 ≤ 9223372036854775807) (b9 : -9223372036854775808 ≤ s9 ∧ s9 ≤ 9223372036854775807) (b10 : -9223372036854775808 ≤ c9 ∧ c9 ≤ 9223372036854775807) (b11 : -9223372036854775808 ≤ h9 ∧ h9 ≤ 9223372036854775807) :
    Calls Try.prog 14 #[.agg #[.int .i64 t, .int .i64 m, .int .i64 a, .int .i64 s, .int .i64 c, .int .i64 h], .agg #[.int .i64 t9, .int .i64 m9, .int .i64 a9, .int .i64 s9, .int .i64 c9, .int .i64 h9]] w fun e w' => e = .returned (.bool true) ∧ Ext w w' := by
  clear b0 b1 b2 b3 b4 b5 b6 b7 b8 b9 b10 b11
  go_enter Try.func14, Try.ntmps14
  go_wp2
  generalize hW : ((w.alloc (Obj.cells #[.int .i64 t, .int .i64 m, .int .i64 a, .int .i64 s, .int .i64 c, .int .i64 h] 32)).alloc (Obj.cells #[.int .i64 t9, .int .i64 m9, .int .i64 a9, .int .i64 s9, .int .i64 c9, .int .i64 h9] 32)) = W
  have hE : Ext w W := by rw [← hW]; exact (((Ext.refl _).alloc _).alloc _)
  have hl0 : w.heap.size < W.heap.size := by rw [← hW]; simp; try omega
  have hl1 : w.heap.size + 1 < W.heap.size := by rw [← hW]; simp; try omega
  have f0_0 : W.cell? ⟨w.heap.size, 0, none⟩ = some (.int .i64 t) := by rw [← hW]; simp
  have f0_1 : W.cell? ⟨w.heap.size, 1, none⟩ = some (.int .i64 m) := by rw [← hW]; simp
  have f0_2 : W.cell? ⟨w.heap.size, 2, none⟩ = some (.int .i64 a) := by rw [← hW]; simp
  have f0_3 : W.cell? ⟨w.heap.size, 3, none⟩ = some (.int .i64 s) := by rw [← hW]; simp
  have f0_4 : W.cell? ⟨w.heap.size, 4, none⟩ = some (.int .i64 c) := by rw [← hW]; simp
  have f0_5 : W.cell? ⟨w.heap.size, 5, none⟩ = some (.int .i64 h) := by rw [← hW]; simp
  have f1_0 : W.cell? ⟨w.heap.size + 1, 0, none⟩ = some (.int .i64 t9) := by rw [← hW]; simp
  have f1_1 : W.cell? ⟨w.heap.size + 1, 1, none⟩ = some (.int .i64 m9) := by rw [← hW]; simp
  have f1_2 : W.cell? ⟨w.heap.size + 1, 2, none⟩ = some (.int .i64 a9) := by rw [← hW]; simp
  have f1_3 : W.cell? ⟨w.heap.size + 1, 3, none⟩ = some (.int .i64 s9) := by rw [← hW]; simp
  have f1_4 : W.cell? ⟨w.heap.size + 1, 4, none⟩ = some (.int .i64 c9) := by rw [← hW]; simp
  have f1_5 : W.cell? ⟨w.heap.size + 1, 5, none⟩ = some (.int .i64 h9) := by rw [← hW]; simp
  clear hW
  have x0 := Ext.refl W
  go_region_held3 (fun w' => w'.cell? ⟨w.heap.size, 0, none⟩ = some (.int .i64 t) ∧ w'.cell? ⟨w.heap.size, 1, none⟩ = some (.int .i64 m) ∧ w'.cell? ⟨w.heap.size, 2, none⟩ = some (.int .i64 a) ∧ w'.cell? ⟨w.heap.size, 3, none⟩ = some (.int .i64 s) ∧ w'.cell? ⟨w.heap.size, 4, none⟩ = some (.int .i64 c) ∧ w'.cell? ⟨w.heap.size, 5, none⟩ = some (.int .i64 h) ∧ w'.cell? ⟨w.heap.size + 1, 0, none⟩ = some (.int .i64 t9) ∧ w'.cell? ⟨w.heap.size + 1, 1, none⟩ = some (.int .i64 m9) ∧ w'.cell? ⟨w.heap.size + 1, 2, none⟩ = some (.int .i64 a9) ∧ w'.cell? ⟨w.heap.size + 1, 3, none⟩ = some (.int .i64 s9) ∧ w'.cell? ⟨w.heap.size + 1, 4, none⟩ = some (.int .i64 c9) ∧ w'.cell? ⟨w.heap.size + 1, 5, none⟩ = some (.int .i64 h9))
    (first | (refine ⟨?_, ?_, ?_, ?_, ?_, ?_, ?_, ?_, ?_, ?_, ?_, ?_⟩ <;> (refine (xc _ _ ?_).trans ?_ <;> assumption)) | (refine ⟨?_, ?_, ?_, ?_, ?_, ?_, ?_, ?_, ?_, ?_, ?_, ?_⟩ <;> assumption) | go_keep)
    (first | (go_at_call 24; ((with_reducible refine (toProfile_any _ _ _ _ _ _ _).mono ?_); rintro e w1 ⟨rfl, x1⟩; (try clear xc xf xs); (first | replace x0 := x0.trans x1 | replace x0 := (x0.alloc _).trans x1 | replace x0 := (x0.drew).trans x1 | replace x0 := (x0.drew.alloc _).trans x1 | replace x0 := (x0.alloc _).drew.trans x1 | replace x0 := ((x0.alloc _).alloc _).trans x1 | have x0 := x1); clear x1; obtain ⟨xc, xf, xs⟩ := x0.cells)) | (go_at_call 44; ((with_reducible refine (specContact_any t m a s c h t9 m9 a9 s9 c9 h9 _).mono ?_); rintro e w1 ⟨rfl, x1⟩; (try clear xc xf xs); (first | replace x0 := x0.trans x1 | replace x0 := (x0.alloc _).trans x1 | replace x0 := (x0.drew).trans x1 | replace x0 := (x0.drew.alloc _).trans x1 | replace x0 := (x0.alloc _).drew.trans x1 | replace x0 := ((x0.alloc _).alloc _).trans x1 | have x0 := x1); clear x1; obtain ⟨xc, xf, xs⟩ := x0.cells)))
  go_wp2
  go_region_held3 (fun w' => w'.cell? ⟨w.heap.size, 0, none⟩ = some (.int .i64 t) ∧ w'.cell? ⟨w.heap.size, 1, none⟩ = some (.int .i64 m) ∧ w'.cell? ⟨w.heap.size, 2, none⟩ = some (.int .i64 a) ∧ w'.cell? ⟨w.heap.size, 3, none⟩ = some (.int .i64 s) ∧ w'.cell? ⟨w.heap.size, 4, none⟩ = some (.int .i64 c) ∧ w'.cell? ⟨w.heap.size, 5, none⟩ = some (.int .i64 h) ∧ w'.cell? ⟨w.heap.size + 1, 0, none⟩ = some (.int .i64 t9) ∧ w'.cell? ⟨w.heap.size + 1, 1, none⟩ = some (.int .i64 m9) ∧ w'.cell? ⟨w.heap.size + 1, 2, none⟩ = some (.int .i64 a9) ∧ w'.cell? ⟨w.heap.size + 1, 3, none⟩ = some (.int .i64 s9) ∧ w'.cell? ⟨w.heap.size + 1, 4, none⟩ = some (.int .i64 c9) ∧ w'.cell? ⟨w.heap.size + 1, 5, none⟩ = some (.int .i64 h9))
    (first | (refine ⟨?_, ?_, ?_, ?_, ?_, ?_, ?_, ?_, ?_, ?_, ?_, ?_⟩ <;> (refine (xc _ _ ?_).trans ?_ <;> assumption)) | (refine ⟨?_, ?_, ?_, ?_, ?_, ?_, ?_, ?_, ?_, ?_, ?_, ?_⟩ <;> assumption) | go_keep)
    (first | (go_at_call 24; ((with_reducible refine (toProfile_any _ _ _ _ _ _ _).mono ?_); rintro e w1 ⟨rfl, x1⟩; (try clear xc xf xs); (first | replace x0 := x0.trans x1 | replace x0 := (x0.alloc _).trans x1 | replace x0 := (x0.drew).trans x1 | replace x0 := (x0.drew.alloc _).trans x1 | replace x0 := (x0.alloc _).drew.trans x1 | replace x0 := ((x0.alloc _).alloc _).trans x1 | have x0 := x1); clear x1; obtain ⟨xc, xf, xs⟩ := x0.cells)) | (go_at_call 45; ((with_reducible refine (implContact_any t m a s c h t9 m9 a9 s9 c9 h9 _).mono ?_); rintro e w1 ⟨rfl, x1⟩; (try clear xc xf xs); (first | replace x0 := x0.trans x1 | replace x0 := (x0.alloc _).trans x1 | replace x0 := (x0.drew).trans x1 | replace x0 := (x0.drew.alloc _).trans x1 | replace x0 := (x0.alloc _).drew.trans x1 | replace x0 := ((x0.alloc _).alloc _).trans x1 | have x0 := x1); clear x1; obtain ⟨xc, xf, xs⟩ := x0.cells)))
  go_wp2
  go_ret
  exact ⟨rfl, hE.trans x0⟩
end Go.Proofs.Ytbhhiodbhlhpmaa
