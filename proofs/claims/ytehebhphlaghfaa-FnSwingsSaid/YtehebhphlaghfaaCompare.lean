/-
  Ratios compared, where the first is at most the second.
-/
import Derived.Test.YtehebhphlaghfaaRatio
import Derived.Deep.DeepCutAuto
namespace Go.Proofs.Ytehebhphlaghfaa
open Go.RowKit
set_option linter.unusedSimpArgs false
set_option linter.unusedVariables false

def cmpLe (x y : Int) : Int := if x < y then -1 else 0
theorem cmpLe_le (x y : Int) : cmpLe x y ≤ 0 := by unfold cmpLe; split <;> omega
theorem vRat_bd {n d : Int} (h : vRat n d = true) : (1 ≤ d ∧ d ≤ 1000000000) ∧ (-1000000000 ≤ n ∧ n ≤ 1000000000) := by
  simp [vRat] at h
  exact ⟨inB_iff.1 h.1.1, inB_iff.1 h.1.2⟩
set_option maxHeartbeats 1000000 in
theorem order_any (n d m c : Int) (w : World) (h1 : vRat n d = true) (h2 : vRat m c = true) (h : n * c ≤ m * d) :
    Calls Try.prog 84 #[.agg #[.int .i64 n, .int .i64 d], .agg #[.int .i64 m, .int .i64 c]] w fun e w' => e = .returned (.int .i64 (cmpLe (n * c) (m * d))) ∧ Ext w w' := by
  have b1 := vRat_bd h1
  have b2 := vRat_bd h2
  have p1 := mul_abs (x := n) (y := c) (X := 1000000000) (Y := 1000000000) (by omega) (by omega)
  have p2 := mul_abs (x := m) (y := d) (X := 1000000000) (Y := 1000000000) (by omega) (by omega)
  have q1 : IntKind.i64.wrap (n * c) = n * c := IntWalk.i64_in _ (by omega)
  have q2 : IntKind.i64.wrap (m * d) = m * d := IntWalk.i64_in _ (by omega)
  have b3 : 1 ≤ c := b2.1.1
  clear h1 h2 b1 b2 p1 p2
  by_cases hlt : n * c < m * d
  · have e := Lib.hid (show -1 = cmpLe (n * c) (m * d) by simp [cmpLe, hlt])
    go_enter Try.func84, Try.ntmps84
    go_wp2_with fail
    go_quiet (fail)
    go_wp2_with fail
    go_ret
    exact ⟨ret_int e.out, (((Ext.refl _).alloc _).alloc _).drewN _⟩
  · have e := Lib.hid (show 0 = cmpLe (n * c) (m * d) by simp [cmpLe, hlt])
    have hgt : ¬ m * d < n * c := by omega
    go_enter Try.func84, Try.ntmps84
    go_wp2_with fail
    go_quiet (fail)
    go_wp2_with fail
    go_ret
    exact ⟨ret_int e.out, (((Ext.refl _).alloc _).alloc _).drewN _⟩
set_option maxHeartbeats 1000000 in
theorem compare_any (n d m c : Int) (w : World) (h1 : vRat n d = true) (h2 : vRat m c = true) (h : n * c ≤ m * d) :
    Calls Try.prog 56 #[.agg #[.int .i64 n, .int .i64 d], .agg #[.int .i64 m, .int .i64 c]] w fun e w' => e = .returned (.int .i64 (cmpLe (n * c) (m * d))) ∧ Ext w w' := by
  have H1 := Lib.hid h1
  have H2 := Lib.hid h2
  have H := Lib.hid h
  clear h1 h2 h
  go_enter Try.func56, Try.ntmps56
  go_upto_region 1 with fail
  generalize hW : ((w.alloc (Obj.cells #[.int .i64 n, .int .i64 d] 57)).alloc (Obj.cells #[.int .i64 m, .int .i64 c] 57)) = W
  have hE : Ext w W := by rw [← hW]; exact (((Ext.refl _).alloc _).alloc _)
  have hl0 : w.heap.size < W.heap.size := by rw [← hW]; simp; try omega
  have hl1 : w.heap.size + 1 < W.heap.size := by rw [← hW]; simp; try omega
  have f0_0 : W.cell? ⟨w.heap.size, 0, none⟩ = some (.int .i64 n) := by rw [← hW]; simp
  have f0_1 : W.cell? ⟨w.heap.size, 1, none⟩ = some (.int .i64 d) := by rw [← hW]; simp
  have f1_0 : W.cell? ⟨w.heap.size + 1, 0, none⟩ = some (.int .i64 m) := by rw [← hW]; simp
  have f1_1 : W.cell? ⟨w.heap.size + 1, 1, none⟩ = some (.int .i64 c) := by rw [← hW]; simp
  clear hW
  have x0 := Ext.refl W
  go_wp2_with (first | (go_at_call 83; ((with_reducible refine (implValidRatio_any n d _).mono ?_); rintro e w1 ⟨rfl, x1⟩; rw [H1.out]; (try clear xc xf xs); (first | replace x0 := x0.trans x1 | replace x0 := (x0.alloc _).trans x1 | replace x0 := (x0.drew).trans x1 | replace x0 := (x0.drew.alloc _).trans x1 | replace x0 := (x0.alloc _).drew.trans x1 | replace x0 := ((x0.alloc _).alloc _).trans x1 | have x0 := x1); clear x1; obtain ⟨xc, xf, xs⟩ := x0.cells)) | (go_at_call 83; ((with_reducible refine (implValidRatio_any m c _).mono ?_); rintro e w1 ⟨rfl, x1⟩; rw [H2.out]; (try clear xc xf xs); (first | replace x0 := x0.trans x1 | replace x0 := (x0.alloc _).trans x1 | replace x0 := (x0.drew).trans x1 | replace x0 := (x0.drew.alloc _).trans x1 | replace x0 := (x0.alloc _).drew.trans x1 | replace x0 := ((x0.alloc _).alloc _).trans x1 | have x0 := x1); clear x1; obtain ⟨xc, xf, xs⟩ := x0.cells)) | (go_at_call 84; ((with_reducible refine (order_any n d m c _ H1.out H2.out H.out).mono ?_); rintro e w1 ⟨rfl, x1⟩; (try clear xc xf xs); (first | replace x0 := x0.trans x1 | replace x0 := (x0.alloc _).trans x1 | replace x0 := (x0.drew).trans x1 | replace x0 := (x0.drew.alloc _).trans x1 | replace x0 := (x0.alloc _).drew.trans x1 | replace x0 := ((x0.alloc _).alloc _).trans x1 | have x0 := x1); clear x1; obtain ⟨xc, xf, xs⟩ := x0.cells)))
  go_ret
  exact ⟨rfl, hE.trans x0⟩
end Go.Proofs.Ytehebhphlaghfaa
