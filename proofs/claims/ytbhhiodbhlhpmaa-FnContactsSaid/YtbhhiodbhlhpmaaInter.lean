/-
  Contracts of the interference of two profiles, and the walk of its law.
-/
import Derived.Test.YtbhhiodbhlhpmaaReach
import Derived.Test.YtbhhiodbhlhpmaaMatch
namespace Go.Proofs.Ytbhhiodbhlhpmaa
open Go.RowKit
set_option linter.unusedSimpArgs false
set_option linter.unusedVariables false

def infB (t m a s c h t9 m9 a9 s9 c9 h9 : Int) : Bool := if matC t m a s c h t9 m9 a9 s9 c9 h9 = 0 then bey t m a s c h t9 m9 || bey t9 m9 a9 s9 c9 h9 t m else false

set_option maxHeartbeats 2000000 in
theorem implInterferes_any (t m a s c h t9 m9 a9 s9 c9 h9 : Int) (w : World) :
    Calls Try.prog 36 #[.agg #[.int .i64 t, .int .i64 m, .int .i64 a, .int .i64 s, .int .i64 c, .int .i64 h], .agg #[.int .i64 t9, .int .i64 m9, .int .i64 a9, .int .i64 s9, .int .i64 c9, .int .i64 h9]] w fun e w' => e = .returned (.tuple #[.bool (infB t m a s c h t9 m9 a9 s9 c9 h9), .int .i64 (matC t m a s c h t9 m9 a9 s9 c9 h9)]) ∧ Ext w w' := by
  by_cases hc : matC t m a s c h t9 m9 a9 s9 c9 h9 = 0
  · obtain ⟨v1, v2, rfl, rfl, rfl, rfl⟩ := matC_ok hc
    have pv := vProf_iff.1 v1
    have pw := vProf_iff.1 v2
    have r1 := pv.bt; have r2 := pv.bm; have r3 := pv.ba; have r4 := pv.bs; have r5 := pv.bc; have r6 := pv.bh; have r7 := pw.bt; have r8 := pw.bm; have r9 := pw.ba
    clear pv pw v1 v2
    have H := Lib.hid hc
    have f0 : (matC t m a s c h t9 m a9 s c h != 0) = false := by rw [hc]; rfl
    have e2 := Lib.hid (show infB t m a s c h t9 m a9 s c h = (bey t m a s c h t9 m || bey t9 m a9 s c h t m) by simp [infB, hc])
    clear hc
    cases hb : bey t m a s c h t9 m
    · go_enter Try.func36, Try.ntmps36
      go_wp2_with (go_at_call 68; refine (matching_any t m a s c h t9 m a9 s c h _).mono ?_; rintro e w1 ⟨rfl, x1⟩; (try clear xc xf xs); (first | replace x0 := x0.trans x1 | replace x0 := (x0.alloc _).trans x1 | replace x0 := (x0.drew).trans x1 | replace x0 := ((x0.alloc _).alloc _).trans x1 | have x0 := x1); clear x1; obtain ⟨xc, xf, xs⟩ := x0.cells)
      (refine (reaches_any t m a s c h t9 m a9 s c h _ r1 r2 r3 r4 r5 r6 r7 r8).mono ?_; rintro e w1 ⟨rfl, x1⟩; (try clear xc xf xs); (first | replace x0 := x0.trans x1 | replace x0 := (x0.alloc _).trans x1 | replace x0 := (x0.drew).trans x1 | replace x0 := ((x0.alloc _).alloc _).trans x1 | have x0 := x1); clear x1; obtain ⟨xc, xf, xs⟩ := x0.cells)
      go_wp2_with fail
      (refine (reaches_any t9 m a9 s c h t m a s c h _ r7 r8 r9 r4 r5 r6 r1 r2).mono ?_; rintro e w1 ⟨rfl, x1⟩; (try clear xc xf xs); (first | replace x0 := x0.trans x1 | replace x0 := (x0.alloc _).trans x1 | replace x0 := (x0.drew).trans x1 | replace x0 := ((x0.alloc _).alloc _).trans x1 | have x0 := x1); clear x1; obtain ⟨xc, xf, xs⟩ := x0.cells)
      go_wp2_with fail
      go_ret2
      exact ⟨retb2 (by rw [e2.out, hb]; simp) (by first | exact H.out.symm | rfl), (((Ext.refl _).alloc _).alloc _).trans x0⟩
    · go_enter Try.func36, Try.ntmps36
      go_wp2_with (go_at_call 68; refine (matching_any t m a s c h t9 m a9 s c h _).mono ?_; rintro e w1 ⟨rfl, x1⟩; (try clear xc xf xs); (first | replace x0 := x0.trans x1 | replace x0 := (x0.alloc _).trans x1 | replace x0 := (x0.drew).trans x1 | replace x0 := ((x0.alloc _).alloc _).trans x1 | have x0 := x1); clear x1; obtain ⟨xc, xf, xs⟩ := x0.cells)
      (refine (reaches_any t m a s c h t9 m a9 s c h _ r1 r2 r3 r4 r5 r6 r7 r8).mono ?_; rintro e w1 ⟨rfl, x1⟩; (try clear xc xf xs); (first | replace x0 := x0.trans x1 | replace x0 := (x0.alloc _).trans x1 | replace x0 := (x0.drew).trans x1 | replace x0 := ((x0.alloc _).alloc _).trans x1 | have x0 := x1); clear x1; obtain ⟨xc, xf, xs⟩ := x0.cells)
      go_wp2_with fail
      go_ret2
      exact ⟨retb2 (by rw [e2.out, hb]; simp) (by first | exact H.out.symm | rfl), (((Ext.refl _).alloc _).alloc _).trans x0⟩
  · have f0 : (matC t m a s c h t9 m9 a9 s9 c9 h9 != 0) = true := by simpa using hc
    have e2 := Lib.hid (show false = infB t m a s c h t9 m9 a9 s9 c9 h9 by simp [infB, hc])
    clear hc
    go_enter Try.func36, Try.ntmps36
    go_wp2_with (go_at_call 68; refine (matching_any t m a s c h t9 m9 a9 s9 c9 h9 _).mono ?_; rintro e w1 ⟨rfl, x1⟩; (try clear xc xf xs); (first | replace x0 := x0.trans x1 | replace x0 := (x0.alloc _).trans x1 | replace x0 := (x0.drew).trans x1 | replace x0 := ((x0.alloc _).alloc _).trans x1 | have x0 := x1); clear x1; obtain ⟨xc, xf, xs⟩ := x0.cells)
    go_ret2
    exact ⟨retb2 e2.out rfl, (((Ext.refl _).alloc _).alloc _).trans x0⟩

set_option maxHeartbeats 2000000 in
theorem specInterferes_any (t m a s c h t9 m9 a9 s9 c9 h9 : Int) (w : World) :
    Calls Try.prog 35 #[.agg #[.int .i64 t, .int .i64 m, .int .i64 a, .int .i64 s, .int .i64 c, .int .i64 h], .agg #[.int .i64 t9, .int .i64 m9, .int .i64 a9, .int .i64 s9, .int .i64 c9, .int .i64 h9]] w fun e w' => e = .returned (.tuple #[.bool (infB t m a s c h t9 m9 a9 s9 c9 h9), .int .i64 (matC t m a s c h t9 m9 a9 s9 c9 h9)]) ∧ Ext w w' := by
  by_cases hc : matC t m a s c h t9 m9 a9 s9 c9 h9 = 0
  · obtain ⟨v1, v2, rfl, rfl, rfl, rfl⟩ := matC_ok hc
    have pv := vProf_iff.1 v1
    have pw := vProf_iff.1 v2
    have r1 := pv.bt; have r2 := pv.bm; have r3 := pv.ba; have r4 := pv.bs; have r5 := pv.bc; have r6 := pv.bh; have r7 := pw.bt; have r8 := pw.bm; have r9 := pw.ba
    clear pv pw v1 v2
    have H := Lib.hid hc
    have f0 : (matC t m a s c h t9 m a9 s c h != 0) = false := by rw [hc]; rfl
    have e2 := Lib.hid (show infB t m a s c h t9 m a9 s c h = (bey t m a s c h t9 m || bey t9 m a9 s c h t m) by simp [infB, hc])
    clear hc
    cases hb : bey t m a s c h t9 m
    · go_enter Try.func35, Try.ntmps35
      go_wp2_with (go_at_call 66; refine (l10Two_any t m a s c h t9 m a9 s c h _).mono ?_; rintro e w1 ⟨rfl, x1⟩; (try clear xc xf xs); (first | replace x0 := x0.trans x1 | replace x0 := (x0.alloc _).trans x1 | replace x0 := (x0.drew).trans x1 | replace x0 := ((x0.alloc _).alloc _).trans x1 | have x0 := x1); clear x1; obtain ⟨xc, xf, xs⟩ := x0.cells)
      (refine (l10Beyond_any t m a s c h t9 m a9 s c h _ r1 r2 r3 r4 r5 r6 r7 r8).mono ?_; rintro e w1 ⟨rfl, x1⟩; (try clear xc xf xs); (first | replace x0 := x0.trans x1 | replace x0 := (x0.alloc _).trans x1 | replace x0 := (x0.drew).trans x1 | replace x0 := ((x0.alloc _).alloc _).trans x1 | have x0 := x1); clear x1; obtain ⟨xc, xf, xs⟩ := x0.cells)
      go_wp2_with fail
      (refine (l10Beyond_any t9 m a9 s c h t m a s c h _ r7 r8 r9 r4 r5 r6 r1 r2).mono ?_; rintro e w1 ⟨rfl, x1⟩; (try clear xc xf xs); (first | replace x0 := x0.trans x1 | replace x0 := (x0.alloc _).trans x1 | replace x0 := (x0.drew).trans x1 | replace x0 := ((x0.alloc _).alloc _).trans x1 | have x0 := x1); clear x1; obtain ⟨xc, xf, xs⟩ := x0.cells)
      go_wp2_with fail
      go_ret2
      exact ⟨retb2 (by rw [e2.out, hb]; simp) (by first | exact H.out.symm | rfl), (((Ext.refl _).alloc _).alloc _).trans x0⟩
    · go_enter Try.func35, Try.ntmps35
      go_wp2_with (go_at_call 66; refine (l10Two_any t m a s c h t9 m a9 s c h _).mono ?_; rintro e w1 ⟨rfl, x1⟩; (try clear xc xf xs); (first | replace x0 := x0.trans x1 | replace x0 := (x0.alloc _).trans x1 | replace x0 := (x0.drew).trans x1 | replace x0 := ((x0.alloc _).alloc _).trans x1 | have x0 := x1); clear x1; obtain ⟨xc, xf, xs⟩ := x0.cells)
      (refine (l10Beyond_any t m a s c h t9 m a9 s c h _ r1 r2 r3 r4 r5 r6 r7 r8).mono ?_; rintro e w1 ⟨rfl, x1⟩; (try clear xc xf xs); (first | replace x0 := x0.trans x1 | replace x0 := (x0.alloc _).trans x1 | replace x0 := (x0.drew).trans x1 | replace x0 := ((x0.alloc _).alloc _).trans x1 | have x0 := x1); clear x1; obtain ⟨xc, xf, xs⟩ := x0.cells)
      go_wp2_with fail
      go_ret2
      exact ⟨retb2 (by rw [e2.out, hb]; simp) (by first | exact H.out.symm | rfl), (((Ext.refl _).alloc _).alloc _).trans x0⟩
  · have f0 : (matC t m a s c h t9 m9 a9 s9 c9 h9 != 0) = true := by simpa using hc
    have e2 := Lib.hid (show false = infB t m a s c h t9 m9 a9 s9 c9 h9 by simp [infB, hc])
    clear hc
    go_enter Try.func35, Try.ntmps35
    go_wp2_with (go_at_call 66; refine (l10Two_any t m a s c h t9 m9 a9 s9 c9 h9 _).mono ?_; rintro e w1 ⟨rfl, x1⟩; (try clear xc xf xs); (first | replace x0 := x0.trans x1 | replace x0 := (x0.alloc _).trans x1 | replace x0 := (x0.drew).trans x1 | replace x0 := ((x0.alloc _).alloc _).trans x1 | have x0 := x1); clear x1; obtain ⟨xc, xf, xs⟩ := x0.cells)
    go_ret2
    exact ⟨retb2 e2.out rfl, (((Ext.refl _).alloc _).alloc _).trans x0⟩

set_option maxHeartbeats 2000000 in
theorem interferes_walk (t m a s c h t9 m9 a9 s9 c9 h9 : Int) (w : World) (b0 : -9223372036854775808 ≤ t ∧ t ≤ 9223372036854775807) (b1 : -9223372036854775808 ≤ m ∧ m ≤ 9223372036854775807) (b2 : -9223372036854775808 ≤ a ∧ a ≤ 9223372036854775807) (b3 : -9223372036854775808 ≤ s ∧ s ≤ 9223372036854775807) (b4 : -9223372036854775808 ≤ c ∧ c ≤ 9223372036854775807) (b5 : -9223372036854775808 ≤ h ∧ h ≤ 9223372036854775807) (b6 : -9223372036854775808 ≤ t9 ∧ t9 ≤ 9223372036854775807) (b7 : -9223372036854775808 ≤ m9 ∧ m9 ≤ 9223372036854775807) (b8 : -9223372036854775808 ≤ a9 ∧ a9 ≤ 9223372036854775807) (b9 : -9223372036854775808 ≤ s9 ∧ s9 ≤ 9223372036854775807) (b10 : -9223372036854775808 ≤ c9 ∧ c9 ≤ 9223372036854775807) (b11 : -9223372036854775808 ≤ h9 ∧ h9 ≤ 9223372036854775807) :
    Calls Try.prog 10 #[.agg #[.int .i64 t, .int .i64 m, .int .i64 a, .int .i64 s, .int .i64 c, .int .i64 h], .agg #[.int .i64 t9, .int .i64 m9, .int .i64 a9, .int .i64 s9, .int .i64 c9, .int .i64 h9]] w fun e w' => e = .returned (.bool true) ∧ Ext w w' := by
  clear b0 b1 b2 b3 b4 b5 b6 b7 b8 b9 b10 b11
  go_enter Try.func10, Try.ntmps10
  go_wp2
  generalize hW : ((w.alloc (Obj.cells #[.int .i64 t, .int .i64 m, .int .i64 a, .int .i64 s, .int .i64 c, .int .i64 h] 32)).alloc (Obj.cells #[.int .i64 t9, .int .i64 m9, .int .i64 a9, .int .i64 s9, .int .i64 c9, .int .i64 h9] 32)) = W
  have hE : Ext w W := by rw [← hW]; exact (((Ext.refl _).alloc _).alloc _)
  have hl0 : w.heap.size < W.heap.size := by rw [← hW]; simp; try omega
  have hl1 : w.heap.size + 1 < W.heap.size := by rw [← hW]; simp; try omega
  have f0_0 : W.cell? ⟨w.heap.size, 0, none⟩ = some (.int .i64 t) := by rw [← hW]; simp
  have f0_1 : W.cell? ⟨w.heap.size, 1, none⟩ = some (.int .i64 m) := by rw [← hW]; simp
  have f0_2 : W.cell? ⟨w.heap.size, 2, none⟩ = some (.int .i64 a) := by rw [← hW]; simp
  have f0_3 : W.cell? ⟨w.heap.size, 3, none⟩ = some (.int .i64 s) := by rw [← hW]; simp
  have f0_4 : W.cell? ⟨w.heap.size, 4, none⟩ = some (.int .i64 c) := by rw [← hW]; simp
  have f0_5 : W.cell? ⟨w.heap.size, 5, none⟩ = some (.int .i64 h) := by rw [← hW]; simp
  have f1_0 : W.cell? ⟨w.heap.size + 1, 0, none⟩ = some (.int .i64 t9) := by rw [← hW]; simp
  have f1_1 : W.cell? ⟨w.heap.size + 1, 1, none⟩ = some (.int .i64 m9) := by rw [← hW]; simp
  have f1_2 : W.cell? ⟨w.heap.size + 1, 2, none⟩ = some (.int .i64 a9) := by rw [← hW]; simp
  have f1_3 : W.cell? ⟨w.heap.size + 1, 3, none⟩ = some (.int .i64 s9) := by rw [← hW]; simp
  have f1_4 : W.cell? ⟨w.heap.size + 1, 4, none⟩ = some (.int .i64 c9) := by rw [← hW]; simp
  have f1_5 : W.cell? ⟨w.heap.size + 1, 5, none⟩ = some (.int .i64 h9) := by rw [← hW]; simp
  clear hW
  have x0 := Ext.refl W
  go_region_held3 (fun w' => w'.cell? ⟨w.heap.size, 0, none⟩ = some (.int .i64 t) ∧ w'.cell? ⟨w.heap.size, 1, none⟩ = some (.int .i64 m) ∧ w'.cell? ⟨w.heap.size, 2, none⟩ = some (.int .i64 a) ∧ w'.cell? ⟨w.heap.size, 3, none⟩ = some (.int .i64 s) ∧ w'.cell? ⟨w.heap.size, 4, none⟩ = some (.int .i64 c) ∧ w'.cell? ⟨w.heap.size, 5, none⟩ = some (.int .i64 h) ∧ w'.cell? ⟨w.heap.size + 1, 0, none⟩ = some (.int .i64 t9) ∧ w'.cell? ⟨w.heap.size + 1, 1, none⟩ = some (.int .i64 m9) ∧ w'.cell? ⟨w.heap.size + 1, 2, none⟩ = some (.int .i64 a9) ∧ w'.cell? ⟨w.heap.size + 1, 3, none⟩ = some (.int .i64 s9) ∧ w'.cell? ⟨w.heap.size + 1, 4, none⟩ = some (.int .i64 c9) ∧ w'.cell? ⟨w.heap.size + 1, 5, none⟩ = some (.int .i64 h9))
    (first | (refine ⟨?_, ?_, ?_, ?_, ?_, ?_, ?_, ?_, ?_, ?_, ?_, ?_⟩ <;> (refine (xc _ _ ?_).trans ?_ <;> assumption)) | (refine ⟨?_, ?_, ?_, ?_, ?_, ?_, ?_, ?_, ?_, ?_, ?_, ?_⟩ <;> assumption) | go_keep)
    (first | (go_at_call 24; refine (toProfile_any _ _ _ _ _ _ _).mono ?_; rintro e w1 ⟨rfl, x1⟩; (try clear xc xf xs); (first | replace x0 := x0.trans x1 | replace x0 := (x0.alloc _).trans x1 | replace x0 := (x0.drew).trans x1 | replace x0 := ((x0.alloc _).alloc _).trans x1 | have x0 := x1); clear x1; obtain ⟨xc, xf, xs⟩ := x0.cells) | (go_at_call 35; refine (specInterferes_any t m a s c h t9 m9 a9 s9 c9 h9 _).mono ?_; rintro e w1 ⟨rfl, x1⟩; (try clear xc xf xs); (first | replace x0 := x0.trans x1 | replace x0 := (x0.alloc _).trans x1 | replace x0 := (x0.drew).trans x1 | replace x0 := ((x0.alloc _).alloc _).trans x1 | have x0 := x1); clear x1; obtain ⟨xc, xf, xs⟩ := x0.cells))
  go_wp2
  go_region_held3 (fun w' => w'.cell? ⟨w.heap.size, 0, none⟩ = some (.int .i64 t) ∧ w'.cell? ⟨w.heap.size, 1, none⟩ = some (.int .i64 m) ∧ w'.cell? ⟨w.heap.size, 2, none⟩ = some (.int .i64 a) ∧ w'.cell? ⟨w.heap.size, 3, none⟩ = some (.int .i64 s) ∧ w'.cell? ⟨w.heap.size, 4, none⟩ = some (.int .i64 c) ∧ w'.cell? ⟨w.heap.size, 5, none⟩ = some (.int .i64 h) ∧ w'.cell? ⟨w.heap.size + 1, 0, none⟩ = some (.int .i64 t9) ∧ w'.cell? ⟨w.heap.size + 1, 1, none⟩ = some (.int .i64 m9) ∧ w'.cell? ⟨w.heap.size + 1, 2, none⟩ = some (.int .i64 a9) ∧ w'.cell? ⟨w.heap.size + 1, 3, none⟩ = some (.int .i64 s9) ∧ w'.cell? ⟨w.heap.size + 1, 4, none⟩ = some (.int .i64 c9) ∧ w'.cell? ⟨w.heap.size + 1, 5, none⟩ = some (.int .i64 h9))
    (first | (refine ⟨?_, ?_, ?_, ?_, ?_, ?_, ?_, ?_, ?_, ?_, ?_, ?_⟩ <;> (refine (xc _ _ ?_).trans ?_ <;> assumption)) | (refine ⟨?_, ?_, ?_, ?_, ?_, ?_, ?_, ?_, ?_, ?_, ?_, ?_⟩ <;> assumption) | go_keep)
    (first | (go_at_call 24; refine (toProfile_any _ _ _ _ _ _ _).mono ?_; rintro e w1 ⟨rfl, x1⟩; (try clear xc xf xs); (first | replace x0 := x0.trans x1 | replace x0 := (x0.alloc _).trans x1 | replace x0 := (x0.drew).trans x1 | replace x0 := ((x0.alloc _).alloc _).trans x1 | have x0 := x1); clear x1; obtain ⟨xc, xf, xs⟩ := x0.cells) | (go_at_call 36; refine (implInterferes_any t m a s c h t9 m9 a9 s9 c9 h9 _).mono ?_; rintro e w1 ⟨rfl, x1⟩; (try clear xc xf xs); (first | replace x0 := x0.trans x1 | replace x0 := (x0.alloc _).trans x1 | replace x0 := (x0.drew).trans x1 | replace x0 := ((x0.alloc _).alloc _).trans x1 | have x0 := x1); clear x1; obtain ⟨xc, xf, xs⟩ := x0.cells))
  go_wp2
  go_ret
  exact ⟨rfl, hE.trans x0⟩

end Go.Proofs.Ytbhhiodbhlhpmaa
