/-
  The clearance of a wheel and a staff.
-/
import Derived.Test.YtgkpganbepbjnaaGeo
import Derived.Test.YtgkpganbepbjnaaSiteS
import Derived.Deep.DeepCutAuto
namespace Go.Proofs.Ytgkpganbepbjnaa
open Go.RowKit
set_option linter.unusedSimpArgs false
set_option linter.unusedVariables false

def clr (x y wh x' y' st' : Int) : Int := rootI (sqd (x, y) (x', y')) - wh - st'
theorem clr_bd {x y x' y' : Int} (hx : 0 ≤ x ∧ x ≤ 10000) (hy : 0 ≤ y ∧ y ≤ 10000) (hx' : 0 ≤ x' ∧ x' ≤ 10000) (hy' : 0 ≤ y' ∧ y' ≤ 10000) : 0 ≤ rootI (sqd (x, y) (x', y')) ∧ rootI (sqd (x, y) (x', y')) ≤ 20000 := by
  have h := sqd_bd hx hy hx' hy'
  exact ⟨(rootI_spec h.1).1, rootI_le h.1 (by omega) (by omega)⟩
set_option maxHeartbeats 2000000 in
theorem clearance_any (s s' : ByteArray) (x y wh st x' y' wh' st' : Int) (w : World) (hx : 0 ≤ x ∧ x ≤ 10000) (hy : 0 ≤ y ∧ y ≤ 10000) (hx' : 0 ≤ x' ∧ x' ≤ 10000) (hy' : 0 ≤ y' ∧ y' ≤ 10000) (hw : 0 ≤ wh ∧ wh ≤ 10000) (ht : 0 ≤ st' ∧ st' ≤ 10000) :
    Calls Try.prog 85 #[.agg #[.string s, .int .i64 x, .int .i64 y, .int .i64 wh, .int .i64 st], .agg #[.string s', .int .i64 x', .int .i64 y', .int .i64 wh', .int .i64 st']] w fun e w' => e = .returned (.int .i64 (clr x y wh x' y' st')) ∧ Ext w w' := by
  have hb := sqd_bd hx hy hx' hy'
  have hr := clr_bd hx hy hx' hy'
  have q1 : IntKind.i64.wrap (rootI (sqd (x, y) (x', y')) - wh) = rootI (sqd (x, y) (x', y')) - wh := IntWalk.i64_in _ (by omega)
  have q2 : IntKind.i64.wrap (rootI (sqd (x, y) (x', y')) - wh - st') = rootI (sqd (x, y) (x', y')) - wh - st' := IntWalk.i64_in _ (by omega)
  clear hr hw ht
  go_enter Try.func85, Try.ntmps85
  go_upto_region 1 with fail
  generalize hW : World.alloc _ _ = W
  have hE : Ext w W := by rw [← hW]; exact ((Ext.refl _).alloc _).alloc _
  have l0 : w.heap.size < W.heap.size := by rw [← hW]; simp; omega
  have l1 : w.heap.size + 1 < W.heap.size := by rw [← hW]; simp
  have c1 : W.cell? ⟨w.heap.size, 1, none⟩ = some (.int .i64 x) := by rw [← hW]; simp [go_sem]
  have c2 : W.cell? ⟨w.heap.size, 2, none⟩ = some (.int .i64 y) := by rw [← hW]; simp [go_sem]
  have c3 : W.cell? ⟨w.heap.size, 3, none⟩ = some (.int .i64 wh) := by rw [← hW]; simp [go_sem]
  have d1 : W.cell? ⟨w.heap.size + 1, 1, none⟩ = some (.int .i64 x') := by rw [← hW]; simp [go_sem]
  have d2 : W.cell? ⟨w.heap.size + 1, 2, none⟩ = some (.int .i64 y') := by rw [← hW]; simp [go_sem]
  have d4 : W.cell? ⟨w.heap.size + 1, 4, none⟩ = some (.int .i64 st') := by rw [← hW]; simp [go_sem]
  clear hW
  have x0 := Ext.refl W
  go_region_held3 (fun w' => w'.cell? ⟨w.heap.size, 1, none⟩ = some (.int .i64 x) ∧ w'.cell? ⟨w.heap.size, 2, none⟩ = some (.int .i64 y) ∧ w'.cell? ⟨w.heap.size, 3, none⟩ = some (.int .i64 wh) ∧ w'.cell? ⟨w.heap.size + 1, 1, none⟩ = some (.int .i64 x') ∧ w'.cell? ⟨w.heap.size + 1, 2, none⟩ = some (.int .i64 y') ∧ w'.cell? ⟨w.heap.size + 1, 4, none⟩ = some (.int .i64 st'))
    (first | (refine ⟨?_, ?_, ?_, ?_, ?_, ?_⟩ <;> with_reducible assumption) | (refine ⟨?_, ?_, ?_, ?_, ?_, ?_⟩ <;> (refine keep_ext (W := W) ?_ (by assumption) (by assumption); exact x0)) | go_keep)
    (first | (go_at_call 111; refine (squared_any x y x' y' _ hx hy hx' hy').mono ?_; rintro e w1 ⟨rfl, x1⟩; (first | replace x0 := x0.trans x1 | replace x0 := (x0.drew).trans x1 | replace x0 := (x0.drewN _).trans x1); clear x1) | (go_at_call 110; refine (rootOf_any _ _ (by omega)).mono ?_; rintro e w1 ⟨rfl, rfl⟩))
  all_goals (go_wp2_with fail; go_ret)
  all_goals exact ⟨rfl, hE.trans x0⟩
end Go.Proofs.Ytgkpganbepbjnaa
