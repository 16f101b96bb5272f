/-
  The hull of a plate: the reference's call.
-/
import Derived.Test.YtgkpganbepbjnaaHu2
import Derived.Test.YtgkpganbepbjnaaClear2
import Derived.Deep.DeepCutAuto
namespace Go.Proofs.Ytgkpganbepbjnaa
open Go.RowKit
set_option linter.unusedSimpArgs false
set_option linter.unusedVariables false

set_option maxRecDepth 100000 in
set_option maxHeartbeats 4000000 in
theorem specHullOf_any (pw ph pm pg : Int) (a : Option Addr) (n c : Nat) (zs : List Sit) (w : World) (hr : SRow w a zs) (hn : zs.length = n) (hm : n ≤ 1048576) (hsz : ∀ j, j < n → (zs.getD j Sit.d).s.size ≤ 9223372036854775807) :
    Calls Try.prog 52 #[.agg #[.int .i64 pw, .int .i64 ph, .int .i64 pm, .int .i64 pg, .slice a n c]] w fun e w' => ∃ v, e = .returned (.tuple #[v, .int .i64 (huC pw ph pm pg zs)]) ∧ IntsOf w' w.heap.size v (huR pw ph pm pg zs) ∧ Ext w w' := by
  cases hv : plOk pw ph pm pg zs
  · have e1 := Lib.hid (show [] = huR pw ph pm pg zs by simp [huR, hv])
    have e2 := Lib.hid (show 1 = huC pw ph pm pg zs by simp [huC, hv])
    go_enter Try.func52, Try.ntmps52
    go_upto_region 1 with fail
    generalize hW : World.alloc _ _ = W
    have hE : Ext w W := by rw [← hW]; exact (Ext.refl _).alloc _
    have l0 : w.heap.size < W.heap.size := by rw [← hW]; simp
    have p0 : W.cell? ⟨w.heap.size, 0, none⟩ = some (.int .i64 pw) := by rw [← hW]; simp [go_sem]
    have p1 : W.cell? ⟨w.heap.size, 1, none⟩ = some (.int .i64 ph) := by rw [← hW]; simp [go_sem]
    have p2 : W.cell? ⟨w.heap.size, 2, none⟩ = some (.int .i64 pm) := by rw [← hW]; simp [go_sem]
    have p3 : W.cell? ⟨w.heap.size, 3, none⟩ = some (.int .i64 pg) := by rw [← hW]; simp [go_sem]
    have p4 : W.cell? ⟨w.heap.size, 4, none⟩ = some (.slice a n c) := by rw [← hW]; simp [go_sem]
    clear hW
    go_wp2_with (first | (go_at_call 81; refine (l09Plate_any pw ph pm pg a n c zs _ (hr.ext hE) hn hm hsz).mono ?_; rintro e w1 ⟨rfl, x1⟩))
    go_ret2
    exact ⟨_, rtH e2.out, (by rw [← e1.out]; exact World.ownsRow_nil _ _ _ _), hE.trans x1⟩
  have e1 := Lib.hid (show hulL (psOf zs) = huR pw ph pm pg zs by simp [huR, hv])
  have e2 := Lib.hid (show 0 = huC pw ph pm pg zs by simp [huC, hv])
  have hok : ∀ k, k < n → SOk (zs.getD k Sit.d) := fun k hk => by
    obtain ⟨h1, h2, h3, h4⟩ := plOk_site hv (j := k) (by omega)
    exact ⟨h1, h2, h3, h4⟩
  go_enter Try.func52, Try.ntmps52
  go_upto_region 1 with fail
  generalize hW : World.alloc _ _ = W
  have hE : Ext w W := by rw [← hW]; exact (Ext.refl _).alloc _
  have l0 : w.heap.size < W.heap.size := by rw [← hW]; simp
  have p0 : W.cell? ⟨w.heap.size, 0, none⟩ = some (.int .i64 pw) := by rw [← hW]; simp [go_sem]
  have p1 : W.cell? ⟨w.heap.size, 1, none⟩ = some (.int .i64 ph) := by rw [← hW]; simp [go_sem]
  have p2 : W.cell? ⟨w.heap.size, 2, none⟩ = some (.int .i64 pm) := by rw [← hW]; simp [go_sem]
  have p3 : W.cell? ⟨w.heap.size, 3, none⟩ = some (.int .i64 pg) := by rw [← hW]; simp [go_sem]
  have p4 : W.cell? ⟨w.heap.size, 4, none⟩ = some (.slice a n c) := by rw [← hW]; simp [go_sem]
  clear hW
  go_upto_region 3 with (first | (go_at_call 81; refine (l09Plate_any pw ph pm pg a n c zs _ (hr.ext hE) hn hm hsz).mono ?_; rintro e w1 ⟨rfl, x1⟩))
  replace p0 := (x1.cells.1 _ _ l0).trans p0
  replace p1 := (x1.cells.1 _ _ l0).trans p1
  replace p2 := (x1.cells.1 _ _ l0).trans p2
  replace p3 := (x1.cells.1 _ _ l0).trans p3
  replace p4 := (x1.cells.1 _ _ l0).trans p4
  replace l0 := Nat.lt_of_lt_of_le l0 x1.size
  replace hE := hE.trans x1
  clear x1
  rename World => W
  clear hv
  have hpo : ∀ j, j < (psOf zs).length → (0 ≤ (pt (psOf zs) j).1 ∧ (pt (psOf zs) j).1 ≤ 10000) ∧ (0 ≤ (pt (psOf zs) j).2 ∧ (pt (psOf zs) j).2 ≤ 10000) := fun j hj => by
    rw [psOf_len, hn] at hj
    rw [pt_of]
    exact ⟨(hok j hj).x, (hok j hj).y⟩
  have hpm : (psOf zs).length ≤ 1048576 := by rw [psOf_len]; omega
  clear hok
  have hES := hE.size
  go_wp2_with (first | (go_at_call 90; refine (l09Points_any pw ph pm pg a n c zs _ (hr.ext hE) hn hm).mono ?_; rintro e w1 ⟨v, rfl, hp, x1⟩; obtain ⟨pa, pc, rfl⟩ := hp.shape) | (go_at_call 89; refine (l09Hull_any pa _ pc (psOf zs) _ hp.row rfl hpm hpo).mono ?_; rintro e w2 ⟨v, rfl, hw, x2⟩; obtain ⟨sa, sc, rfl⟩ := hw.shape))
  have h1S := x1.size
  go_ret2
  exact ⟨_, rtH e2.out, (by rw [← e1.out]; exact own_base hw (by omega)), (hE.trans x1).trans x2⟩
end Go.Proofs.Ytgkpganbepbjnaa
