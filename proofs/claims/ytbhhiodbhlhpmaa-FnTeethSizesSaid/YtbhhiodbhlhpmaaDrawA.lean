/-
  What the laws on profiles draw: it is there, and only the source has moved on.
-/
import Derived.Test.YtbhhiodbhlhpmaaDrawI
namespace Go.Proofs.Ytbhhiodbhlhpmaa
open Go.RowKit
set_option linter.unusedSimpArgs false
set_option linter.unusedVariables false

set_option maxRecDepth 100000 in
set_option maxHeartbeats 2000000 in
theorem drawAngle_any (g n cp k : Nat) (a : Option Addr) (w : World) (hS : Src w g a n cp k) (hB : RowB w g a n) (hk : k ≤ 800000) (hn : n ≤ 1048576) :
    Calls Try.prog 86 #[.pointer (some ⟨g, 0, none⟩)] w fun e w' => (∃ v0 v1 v2, e = .returned (.agg #[.int .i64 v0, .int .i64 v1, .int .i64 v2])) ∧ Src w' g a n cp (k + 6) ∧ Wrote (some g) w w' := by
  have hlg := hS.lt
  go_enter Try.func86, Try.ntmps86
  go_upto_region 1 with fail
  generalize hW : World.alloc _ _ = W
  have xW : Ext w W := by rw [← hW]; exact (Ext.refl _).alloc _
  have hlR : w.heap.size < W.heap.size := by rw [← hW]; simp
  have hneR : some w.heap.size ≠ some g := fun e => by injection e; omega
  have r0R0 : W.cell? ⟨w.heap.size, 0, none⟩ = some (.int .i64 0) := by rw [← hW]; simp [go_sem]
  have y0R0 : W.frozen? ⟨w.heap.size, 0, none⟩ = false := by rw [← hW]; simp
  have r0R1 : W.cell? ⟨w.heap.size, 1, none⟩ = some (.int .i64 0) := by rw [← hW]; simp [go_sem]
  have y0R1 : W.frozen? ⟨w.heap.size, 1, none⟩ = false := by rw [← hW]; simp
  have r0R2 : W.cell? ⟨w.heap.size, 2, none⟩ = some (.int .i64 0) := by rw [← hW]; simp [go_sem]
  have y0R2 : W.frozen? ⟨w.heap.size, 2, none⟩ = false := by rw [← hW]; simp
  clear hW
  replace hS := hS.ext xW
  replace hB := hB.ext xW
  go_upto_region 2 with fail
  generalize hV : World.alloc _ _ = V
  have xV : Ext W V := by rw [← hV]; exact (Ext.refl _).alloc _
  have hlL : W.heap.size < V.heap.size := by rw [← hV]; simp
  have hL : ∀ j, j < 9 → ∃ p0 p1 p2 : Int, V.cell? ⟨W.heap.size, j * 3, none⟩ = some (.int .i64 p0) ∧ V.cell? ⟨W.heap.size, j * 3 + 1, none⟩ = some (.int .i64 p1) ∧ V.cell? ⟨W.heap.size, j * 3 + 2, none⟩ = some (.int .i64 p2) := by
    intro j hj
    rw [← hV]
    have hj : j = 0 ∨ j = 1 ∨ j = 2 ∨ j = 3 ∨ j = 4 ∨ j = 5 ∨ j = 6 ∨ j = 7 ∨ j = 8 := by omega
    rcases hj with rfl | rfl | rfl | rfl | rfl | rfl | rfl | rfl | rfl <;> exact ⟨_, _, _, by simp [go_sem]; rfl, by simp [go_sem]; rfl, by simp [go_sem]; rfl⟩
  have r0L0 : V.cell? ⟨W.heap.size, 0, none⟩ = some (.int .i64 5) := by rw [← hV]; simp [go_sem]
  have r0L1 : V.cell? ⟨W.heap.size, 1, none⟩ = some (.int .i64 12) := by rw [← hV]; simp [go_sem]
  have r0L2 : V.cell? ⟨W.heap.size, 2, none⟩ = some (.int .i64 13) := by rw [← hV]; simp [go_sem]
  clear hV
  have hxs := xW.size
  have hneL : some W.heap.size ≠ some g := fun e => by injection e; omega
  have hLR : W.heap.size ≠ w.heap.size := by omega
  have hRL : w.heap.size ≠ W.heap.size := by omega
  have hws : w.heap.size ≤ W.heap.size := by omega
  replace r0R0 := (xV.cells.1 _ _ hlR).trans r0R0
  replace y0R0 := (xV.cells.2.1 _ _ hlR).trans y0R0
  replace r0R1 := (xV.cells.1 _ _ hlR).trans r0R1
  replace y0R1 := (xV.cells.2.1 _ _ hlR).trans y0R1
  replace r0R2 := (xV.cells.1 _ _ hlR).trans r0R2
  replace y0R2 := (xV.cells.2.1 _ _ hlR).trans y0R2
  replace hlR := Nat.lt_of_lt_of_le hlR xV.size
  replace hS := hS.ext xV
  replace hB := hB.ext xV
  have hwV : Wrote (some g) w V := Wrote.of_ext _ (xW.trans xV)
  clear xW xV hxs
  generalize W.heap.size = gL at *
  have hW0 := Wrote.refl (some g) V
  go_upto_region 3 with (first | (go_at_call 71; refine (pick_any g n cp _ _ a _ (by first | exact hS | exact hS.ext ((Ext.refl _).alloc _) | exact hS.ext (((Ext.refl _).alloc _).alloc _) | exact hS.ext ((((Ext.refl _).alloc _).alloc _).alloc _)) (by first | exact hB | exact hB.ext ((Ext.refl _).alloc _) | exact hB.ext (((Ext.refl _).alloc _).alloc _) | exact hB.ext ((((Ext.refl _).alloc _).alloc _).alloc _)) (by omega) hn).mono ?_; rintro e w1 ⟨x, rfl, hx, hS2, hW⟩; obtain ⟨j, rfl⟩ : ∃ j : Nat, x = j := ⟨x.toNat, (by omega)⟩; obtain ⟨p0, p1, p2, c0, c1, c2⟩ := hL j (by omega); have t1 : j < 9 := (by omega); have t2 : (j : Int) < 9 := (by omega); replace c0 := (hW.cell hlL hneL).trans c0; replace c1 := (hW.cell hlL hneL).trans c1; replace c2 := (hW.cell hlL hneL).trans c2; (first | replace hW0 := hW0.trans hW | replace hW0 := (hW0.trans (Wrote.alloc _ _ _)).trans hW | replace hW0 := ((hW0.trans (Wrote.alloc _ _ _)).trans (Wrote.alloc _ _ _)).trans hW | replace hW0 := (((hW0.trans (Wrote.alloc _ _ _)).trans (Wrote.alloc _ _ _)).trans (Wrote.alloc _ _ _)).trans hW); (first | replace hB := hB.wrote hW | replace hB := (hB.ext ((Ext.refl _).alloc _)).wrote hW | replace hB := (hB.ext (((Ext.refl _).alloc _).alloc _)).wrote hW | replace hB := (hB.ext ((((Ext.refl _).alloc _).alloc _).alloc _)).wrote hW); clear hS hW; have hS := hS2; clear hS2))
  generalize hU : World.alloc _ _ = U
  have xU : Ext w1 U := by rw [← hU]; exact (Ext.refl _).alloc _
  have hlA : w1.heap.size < U.heap.size := by rw [← hU]; simp
  have hs1 := hW0.size
  have hneA : some w1.heap.size ≠ some g := fun e => by injection e; have := hS.lt; omega
  have hAR : w1.heap.size ≠ w.heap.size := by omega
  have hRA : w.heap.size ≠ w1.heap.size := by omega
  have hAL : w1.heap.size ≠ gL := by omega
  have hLA : gL ≠ w1.heap.size := by omega
  have hws1 : w.heap.size ≤ w1.heap.size := by omega
  have r0A0 : U.cell? ⟨w1.heap.size, 0, none⟩ = some (.int .i64 p0) := by rw [← hU]; simp [go_sem]
  have y0A0 : U.frozen? ⟨w1.heap.size, 0, none⟩ = false := by rw [← hU]; simp
  have r0A1 : U.cell? ⟨w1.heap.size, 1, none⟩ = some (.int .i64 p1) := by rw [← hU]; simp [go_sem]
  have y0A1 : U.frozen? ⟨w1.heap.size, 1, none⟩ = false := by rw [← hU]; simp
  have r0A2 : U.cell? ⟨w1.heap.size, 2, none⟩ = some (.int .i64 p2) := by rw [← hU]; simp [go_sem]
  have y0A2 : U.frozen? ⟨w1.heap.size, 2, none⟩ = false := by rw [← hU]; simp
  have hVU : Wrote (some g) V U := hW0.trans (Wrote.of_ext _ xU)
  replace r0R0 := (hVU.cell hlR hneR).trans r0R0
  replace y0R0 := (hVU.free hlR hneR).trans y0R0
  replace r0R1 := (hVU.cell hlR hneR).trans r0R1
  replace y0R1 := (hVU.free hlR hneR).trans y0R1
  replace r0R2 := (hVU.cell hlR hneR).trans r0R2
  replace y0R2 := (hVU.free hlR hneR).trans y0R2
  replace r0L0 := (hVU.cell hlL hneL).trans r0L0
  replace r0L1 := (hVU.cell hlL hneL).trans r0L1
  replace r0L2 := (hVU.cell hlL hneL).trans r0L2
  replace hlR := Nat.lt_of_lt_of_le hlR hVU.size
  replace hlL := Nat.lt_of_lt_of_le hlL hVU.size
  replace hS := hS.ext xU
  replace hB := hB.ext xU
  replace hwV := hwV.trans hVU
  clear hU xU hW0 hVU hs1 hL c0 c1 c2 t1 t2 hx
  generalize w1.heap.size = gA at *
  have hW0 := Wrote.refl (some g) U
  have rR0 := r0R0
  have yR0 := y0R0
  have rR1 := r0R1
  have yR1 := y0R1
  have rR2 := r0R2
  have yR2 := y0R2
  have rL0 := r0L0
  have rL1 := r0L1
  have rL2 := r0L2
  have rA0 := r0A0
  have yA0 := y0A0
  have rA1 := r0A1
  have yA1 := y0A1
  have rA2 := r0A2
  have yA2 := y0A2
  go_upto_region 5 with (first | (go_at_call 72; refine (one_any g n cp _ _ a _ (by first | exact hS | exact hS.ext ((Ext.refl _).alloc _) | exact hS.ext (((Ext.refl _).alloc _).alloc _) | exact hS.ext ((((Ext.refl _).alloc _).alloc _).alloc _)) (by first | exact hB | exact hB.ext ((Ext.refl _).alloc _) | exact hB.ext (((Ext.refl _).alloc _).alloc _) | exact hB.ext ((((Ext.refl _).alloc _).alloc _).alloc _)) (by omega) hn).mono ?_; rintro e w1 ⟨x, rfl, hS2, hW⟩; (first | replace hW0 := hW0.trans hW | replace hW0 := (hW0.trans (Wrote.alloc _ _ _)).trans hW | replace hW0 := ((hW0.trans (Wrote.alloc _ _ _)).trans (Wrote.alloc _ _ _)).trans hW | replace hW0 := (((hW0.trans (Wrote.alloc _ _ _)).trans (Wrote.alloc _ _ _)).trans (Wrote.alloc _ _ _)).trans hW); (first | replace hB := hB.wrote hW | replace hB := (hB.ext ((Ext.refl _).alloc _)).wrote hW | replace hB := (hB.ext (((Ext.refl _).alloc _).alloc _)).wrote hW | replace hB := (hB.ext ((((Ext.refl _).alloc _).alloc _).alloc _)).wrote hW); clear hS hW; have hS := hS2; clear hS2; (try clear rR0 yR0 rR1 yR1 rR2 yR2 rL0 rL1 rL2 rA0 yA0 rA1 yA1 rA2 yA2); have rR0 := (hW0.cell hlR hneR).trans r0R0; have yR0 := (hW0.free hlR hneR).trans y0R0; have rR1 := (hW0.cell hlR hneR).trans r0R1; have yR1 := (hW0.free hlR hneR).trans y0R1; have rR2 := (hW0.cell hlR hneR).trans r0R2; have yR2 := (hW0.free hlR hneR).trans y0R2; have rL0 := (hW0.cell hlL hneL).trans r0L0; have rL1 := (hW0.cell hlL hneL).trans r0L1; have rL2 := (hW0.cell hlL hneL).trans r0L2; have rA0 := (hW0.cell hlA hneA).trans r0A0; have yA0 := (hW0.free hlA hneA).trans y0A0; have rA1 := (hW0.cell hlA hneA).trans r0A1; have yA1 := (hW0.free hlA hneA).trans y0A1; have rA2 := (hW0.cell hlA hneA).trans r0A2; have yA2 := (hW0.free hlA hneA).trans y0A2) | (go_at_call 73; refine (among_any g n cp _ _ _ _ _ _ a _ (by first | exact hS | exact hS.ext ((Ext.refl _).alloc _) | exact hS.ext (((Ext.refl _).alloc _).alloc _) | exact hS.ext ((((Ext.refl _).alloc _).alloc _).alloc _)) (by first | exact hB | exact hB.ext ((Ext.refl _).alloc _) | exact hB.ext (((Ext.refl _).alloc _).alloc _) | exact hB.ext ((((Ext.refl _).alloc _).alloc _).alloc _)) (by omega) hn (by first | exact lit2 _ _ _ | exact lit3 _ _ _ _ | exact lit4 _ _ _ _ _ | exact lit5 _ _ _ _ _ _) (by omega) (by have := hS.lt; simp; omega)).mono ?_; rintro e w1 ⟨x, rfl, hS2, hW⟩; (first | replace hW0 := hW0.trans hW | replace hW0 := (hW0.trans (Wrote.alloc _ _ _)).trans hW | replace hW0 := ((hW0.trans (Wrote.alloc _ _ _)).trans (Wrote.alloc _ _ _)).trans hW | replace hW0 := (((hW0.trans (Wrote.alloc _ _ _)).trans (Wrote.alloc _ _ _)).trans (Wrote.alloc _ _ _)).trans hW); (first | replace hB := hB.wrote hW | replace hB := (hB.ext ((Ext.refl _).alloc _)).wrote hW | replace hB := (hB.ext (((Ext.refl _).alloc _).alloc _)).wrote hW | replace hB := (hB.ext ((((Ext.refl _).alloc _).alloc _).alloc _)).wrote hW); clear hS hW; have hS := hS2; clear hS2; (try clear rR0 yR0 rR1 yR1 rR2 yR2 rL0 rL1 rL2 rA0 yA0 rA1 yA1 rA2 yA2); have rR0 := (hW0.cell hlR hneR).trans r0R0; have yR0 := (hW0.free hlR hneR).trans y0R0; have rR1 := (hW0.cell hlR hneR).trans r0R1; have yR1 := (hW0.free hlR hneR).trans y0R1; have rR2 := (hW0.cell hlR hneR).trans r0R2; have yR2 := (hW0.free hlR hneR).trans y0R2; have rL0 := (hW0.cell hlL hneL).trans r0L0; have rL1 := (hW0.cell hlL hneL).trans r0L1; have rL2 := (hW0.cell hlL hneL).trans r0L2; have rA0 := (hW0.cell hlA hneA).trans r0A0; have yA0 := (hW0.free hlA hneA).trans y0A0; have rA1 := (hW0.cell hlA hneA).trans r0A1; have yA1 := (hW0.free hlA hneA).trans y0A1; have rA2 := (hW0.cell hlA hneA).trans r0A2; have yA2 := (hW0.free hlA hneA).trans y0A2))
  · go_upto_region 6 with fail
    generalize wrap64 (_ * p0) = t0
    generalize wrap64 (_ * p1) = t1
    generalize wrap64 (_ * p2) = t2
    by_cases h : 1000 < t2
    · go_upto_region 8 with fail
      generalize hU : World.setCell _ _ _ = U9
      have hS9 : Src U9 g a n cp (k + 6) := by rw [← hU]; (repeat (refine Src.other ?_ (by simp; omega) _)); exact hS.more (by omega)
      have hW9 : Wrote (some g) w U9 := by rw [← hU]; (repeat (refine Wrote.fresh ?_ (by simp; try omega) _)); exact hwV.trans hW0
      have kA0 : U9.cell? ⟨gA, 0, none⟩ = some (.int .i64 5) := by rw [← hU]; simp (maxDischargeDepth := 12) [go_sem, rA0, rA1, rA2, rL0, rL1, rL2, hAL, hLA]
      have kA1 : U9.cell? ⟨gA, 1, none⟩ = some (.int .i64 12) := by rw [← hU]; simp (maxDischargeDepth := 12) [go_sem, rA0, rA1, rA2, rL0, rL1, rL2, hAL, hLA]
      have kA2 : U9.cell? ⟨gA, 2, none⟩ = some (.int .i64 13) := by rw [← hU]; simp (maxDischargeDepth := 12) [go_sem, rA0, rA1, rA2, rL0, rL1, rL2, hAL, hLA]
      have kR0 : U9.cell? ⟨w.heap.size, 0, none⟩ = some (.int .i64 0) := by rw [← hU]; simp [go_sem, rR0, hAR, hRA]
      have kR1 : U9.cell? ⟨w.heap.size, 1, none⟩ = some (.int .i64 0) := by rw [← hU]; simp [go_sem, rR1, hAR, hRA]
      have kR2 : U9.cell? ⟨w.heap.size, 2, none⟩ = some (.int .i64 0) := by rw [← hU]; simp [go_sem, rR2, hAR, hRA]
      have kY0 : U9.frozen? ⟨w.heap.size, 0, none⟩ = false := by rw [← hU]; simp [yR0]
      have kY1 : U9.frozen? ⟨w.heap.size, 1, none⟩ = false := by rw [← hU]; simp [yR1]
      have kY2 : U9.frozen? ⟨w.heap.size, 2, none⟩ = false := by rw [← hU]; simp [yR2]
      clear hU rA0 rA1 rA2 rL0 rL1 rL2 rR0 rR1 rR2 yR0 yR1 yR2 yA0 yA1 yA2 hS hB hW0
      go_wp2_with fail
      refine bodyPost_ret (v := ?_) ?_ rfl ?_
      all_goals try (simp [results, Try.results86, go_sem, kR0, kR1, kR2]; exact rfl)
      exact ⟨⟨_, _, _, rfl⟩, by (repeat (refine Src.other ?_ (by simp; omega) _)); exact hS9, by (repeat (refine Wrote.fresh ?_ (by simp; try omega) _)); exact hW9⟩
    · go_upto_region 8 with fail
      generalize hU : World.setCell _ _ _ = U9
      have hS9 : Src U9 g a n cp (k + 6) := by rw [← hU]; (repeat (refine Src.other ?_ (by simp; omega) _)); exact hS.more (by omega)
      have hW9 : Wrote (some g) w U9 := by rw [← hU]; (repeat (refine Wrote.fresh ?_ (by simp; try omega) _)); exact hwV.trans hW0
      have kA0 : U9.cell? ⟨gA, 0, none⟩ = some (.int .i64 t0) := by rw [← hU]; simp (maxDischargeDepth := 12) [go_sem, rA0, rA1, rA2]
      have kA1 : U9.cell? ⟨gA, 1, none⟩ = some (.int .i64 t1) := by rw [← hU]; simp (maxDischargeDepth := 12) [go_sem, rA0, rA1, rA2]
      have kA2 : U9.cell? ⟨gA, 2, none⟩ = some (.int .i64 t2) := by rw [← hU]; simp (maxDischargeDepth := 12) [go_sem, rA0, rA1, rA2]
      have kR0 : U9.cell? ⟨w.heap.size, 0, none⟩ = some (.int .i64 0) := by rw [← hU]; simp [go_sem, rR0, hAR, hRA]
      have kR1 : U9.cell? ⟨w.heap.size, 1, none⟩ = some (.int .i64 0) := by rw [← hU]; simp [go_sem, rR1, hAR, hRA]
      have kR2 : U9.cell? ⟨w.heap.size, 2, none⟩ = some (.int .i64 0) := by rw [← hU]; simp [go_sem, rR2, hAR, hRA]
      have kY0 : U9.frozen? ⟨w.heap.size, 0, none⟩ = false := by rw [← hU]; simp [yR0]
      have kY1 : U9.frozen? ⟨w.heap.size, 1, none⟩ = false := by rw [← hU]; simp [yR1]
      have kY2 : U9.frozen? ⟨w.heap.size, 2, none⟩ = false := by rw [← hU]; simp [yR2]
      clear hU rA0 rA1 rA2 rL0 rL1 rL2 rR0 rR1 rR2 yR0 yR1 yR2 yA0 yA1 yA2 hS hB hW0
      go_wp2_with fail
      refine bodyPost_ret (v := ?_) ?_ rfl ?_
      all_goals try (simp [results, Try.results86, go_sem, kR0, kR1, kR2]; exact rfl)
      exact ⟨⟨_, _, _, rfl⟩, by (repeat (refine Src.other ?_ (by simp; omega) _)); exact hS9, by (repeat (refine Wrote.fresh ?_ (by simp; try omega) _)); exact hW9⟩
  all_goals refine bodyPost_ret (v := ?_) ?_ rfl ?_
  all_goals try (simp [results, Try.results86, go_sem, *]; exact rfl)
  all_goals exact ⟨⟨_, _, _, rfl⟩, by (repeat (refine Src.other ?_ (by simp; omega) _)); exact hS.more (by omega), by (repeat (refine Wrote.fresh ?_ (by simp; try omega) _)); exact hwV.trans hW0⟩
set_option maxRecDepth 100000 in
set_option maxHeartbeats 2000000 in
theorem drawBentAngle_any (g n cp k : Nat) (a : Option Addr) (w : World) (hS : Src w g a n cp k) (hB : RowB w g a n) (hk : k ≤ 600000) (hn : n ≤ 1048576) :
    Calls Try.prog 74 #[.pointer (some ⟨g, 0, none⟩)] w fun e w' => (∃ v0 v1 v2, e = .returned (.agg #[.int .i64 v0, .int .i64 v1, .int .i64 v2])) ∧ Src w' g a n cp (k + 8) ∧ Wrote (some g) w w' := by
  have hlg := hS.lt
  go_enter Try.func74, Try.ntmps74
  go_upto_region 1 with fail
  generalize hW : World.alloc _ _ = W
  have xW : Ext w W := by rw [← hW]; exact (Ext.refl _).alloc _
  have hlR : w.heap.size < W.heap.size := by rw [← hW]; simp
  have hneR : some w.heap.size ≠ some g := fun e => by injection e; omega
  have r0R0 : W.cell? ⟨w.heap.size, 0, none⟩ = some (.int .i64 0) := by rw [← hW]; simp [go_sem]
  have y0R0 : W.frozen? ⟨w.heap.size, 0, none⟩ = false := by rw [← hW]; simp
  have r0R1 : W.cell? ⟨w.heap.size, 1, none⟩ = some (.int .i64 0) := by rw [← hW]; simp [go_sem]
  have y0R1 : W.frozen? ⟨w.heap.size, 1, none⟩ = false := by rw [← hW]; simp
  have r0R2 : W.cell? ⟨w.heap.size, 2, none⟩ = some (.int .i64 0) := by rw [← hW]; simp [go_sem]
  have y0R2 : W.frozen? ⟨w.heap.size, 2, none⟩ = false := by rw [← hW]; simp
  clear hW
  replace hS := hS.ext xW
  replace hB := hB.ext xW
  go_upto_region 2 with (go_at_call 86; refine (drawAngle_any g n cp _ a _ hS hB (by omega) hn).mono ?_; rintro e w1 ⟨⟨v0, v1, v2, rfl⟩, hS2, hWc⟩)
  generalize hV : World.alloc _ _ = V
  have xV : Ext w1 V := by rw [← hV]; exact (Ext.refl _).alloc _
  have hlE : w1.heap.size < V.heap.size := by rw [← hV]; simp
  have hs1 := hWc.size
  have hneE : some w1.heap.size ≠ some g := fun e => by injection e; have := hS2.lt; omega
  have hER : w1.heap.size ≠ w.heap.size := by omega
  have hRE : w.heap.size ≠ w1.heap.size := by omega
  have hl1 : w.heap.size < w1.heap.size := by omega
  have r0E0 : V.cell? ⟨w1.heap.size, 0, none⟩ = some (.int .i64 v0) := by rw [← hV]; simp [go_sem]
  have y0E0 : V.frozen? ⟨w1.heap.size, 0, none⟩ = false := by rw [← hV]; simp
  have r0E1 : V.cell? ⟨w1.heap.size, 1, none⟩ = some (.int .i64 v1) := by rw [← hV]; simp [go_sem]
  have y0E1 : V.frozen? ⟨w1.heap.size, 1, none⟩ = false := by rw [← hV]; simp
  have r0E2 : V.cell? ⟨w1.heap.size, 2, none⟩ = some (.int .i64 v2) := by rw [← hV]; simp [go_sem]
  have y0E2 : V.frozen? ⟨w1.heap.size, 2, none⟩ = false := by rw [← hV]; simp
  replace r0R0 := (xV.cells.1 _ _ hl1).trans ((hWc.cell hlR hneR).trans r0R0)
  replace y0R0 := (xV.cells.2.1 _ _ hl1).trans ((hWc.free hlR hneR).trans y0R0)
  replace r0R1 := (xV.cells.1 _ _ hl1).trans ((hWc.cell hlR hneR).trans r0R1)
  replace y0R1 := (xV.cells.2.1 _ _ hl1).trans ((hWc.free hlR hneR).trans y0R1)
  replace r0R2 := (xV.cells.1 _ _ hl1).trans ((hWc.cell hlR hneR).trans r0R2)
  replace y0R2 := (xV.cells.2.1 _ _ hl1).trans ((hWc.free hlR hneR).trans y0R2)
  replace hB := (hB.wrote hWc).ext xV
  replace hlR : w.heap.size < V.heap.size := by omega
  have hWV : Wrote (some g) w V := ((Wrote.of_ext _ xW).trans hWc).trans (Wrote.of_ext _ xV)
  have hws : w.heap.size ≤ w1.heap.size := by omega
  clear hS hV hWc
  have hS := hS2.ext xV
  clear hS2 xV
  generalize w1.heap.size = gE at *
  have hW0 := Wrote.refl (some g) V
  have rR0 := r0R0
  have yR0 := y0R0
  have rR1 := r0R1
  have yR1 := y0R1
  have rR2 := r0R2
  have yR2 := y0R2
  have rE0 := r0E0
  have yE0 := y0E0
  have rE1 := r0E1
  have yE1 := y0E1
  have rE2 := r0E2
  have yE2 := y0E2
  go_wp2_with (first | (go_at_call 71; refine (pick_any g n cp _ _ a _ (by first | exact hS | exact hS.ext ((Ext.refl _).alloc _) | exact hS.ext (((Ext.refl _).alloc _).alloc _) | exact hS.ext ((((Ext.refl _).alloc _).alloc _).alloc _)) (by first | exact hB | exact hB.ext ((Ext.refl _).alloc _) | exact hB.ext (((Ext.refl _).alloc _).alloc _) | exact hB.ext ((((Ext.refl _).alloc _).alloc _).alloc _)) (by omega) hn).mono ?_; rintro e w1 ⟨x, rfl, hx, hS2, hW⟩; (first | replace hW0 := hW0.trans hW | replace hW0 := (hW0.trans (Wrote.alloc _ _ _)).trans hW | replace hW0 := ((hW0.trans (Wrote.alloc _ _ _)).trans (Wrote.alloc _ _ _)).trans hW | replace hW0 := (((hW0.trans (Wrote.alloc _ _ _)).trans (Wrote.alloc _ _ _)).trans (Wrote.alloc _ _ _)).trans hW); (first | replace hB := hB.wrote hW | replace hB := (hB.ext ((Ext.refl _).alloc _)).wrote hW | replace hB := (hB.ext (((Ext.refl _).alloc _).alloc _)).wrote hW | replace hB := (hB.ext ((((Ext.refl _).alloc _).alloc _).alloc _)).wrote hW); clear hS hW; have hS := hS2; clear hS2; (try clear rR0 yR0 rR1 yR1 rR2 yR2 rE0 yE0 rE1 yE1 rE2 yE2); have rR0 := (hW0.cell hlR hneR).trans r0R0; have yR0 := (hW0.free hlR hneR).trans y0R0; have rR1 := (hW0.cell hlR hneR).trans r0R1; have yR1 := (hW0.free hlR hneR).trans y0R1; have rR2 := (hW0.cell hlR hneR).trans r0R2; have yR2 := (hW0.free hlR hneR).trans y0R2; have rE0 := (hW0.cell hlE hneE).trans r0E0; have yE0 := (hW0.free hlE hneE).trans y0E0; have rE1 := (hW0.cell hlE hneE).trans r0E1; have yE1 := (hW0.free hlE hneE).trans y0E1; have rE2 := (hW0.cell hlE hneE).trans r0E2; have yE2 := (hW0.free hlE hneE).trans y0E2) | (go_at_call 73; refine (among_any g n cp _ _ _ _ _ _ a _ (by first | exact hS | exact hS.ext ((Ext.refl _).alloc _) | exact hS.ext (((Ext.refl _).alloc _).alloc _) | exact hS.ext ((((Ext.refl _).alloc _).alloc _).alloc _)) (by first | exact hB | exact hB.ext ((Ext.refl _).alloc _) | exact hB.ext (((Ext.refl _).alloc _).alloc _) | exact hB.ext ((((Ext.refl _).alloc _).alloc _).alloc _)) (by omega) hn (by first | exact lit2 _ _ _ | exact lit3 _ _ _ _ | exact lit4 _ _ _ _ _ | exact lit5 _ _ _ _ _ _) (by omega) (by have := hS.lt; simp; omega)).mono ?_; rintro e w1 ⟨x, rfl, hS2, hW⟩; (first | replace hW0 := hW0.trans hW | replace hW0 := (hW0.trans (Wrote.alloc _ _ _)).trans hW | replace hW0 := ((hW0.trans (Wrote.alloc _ _ _)).trans (Wrote.alloc _ _ _)).trans hW | replace hW0 := (((hW0.trans (Wrote.alloc _ _ _)).trans (Wrote.alloc _ _ _)).trans (Wrote.alloc _ _ _)).trans hW); (first | replace hB := hB.wrote hW | replace hB := (hB.ext ((Ext.refl _).alloc _)).wrote hW | replace hB := (hB.ext (((Ext.refl _).alloc _).alloc _)).wrote hW | replace hB := (hB.ext ((((Ext.refl _).alloc _).alloc _).alloc _)).wrote hW); clear hS hW; have hS := hS2; clear hS2; (try clear rR0 yR0 rR1 yR1 rR2 yR2 rE0 yE0 rE1 yE1 rE2 yE2); have rR0 := (hW0.cell hlR hneR).trans r0R0; have yR0 := (hW0.free hlR hneR).trans y0R0; have rR1 := (hW0.cell hlR hneR).trans r0R1; have yR1 := (hW0.free hlR hneR).trans y0R1; have rR2 := (hW0.cell hlR hneR).trans r0R2; have yR2 := (hW0.free hlR hneR).trans y0R2; have rE0 := (hW0.cell hlE hneE).trans r0E0; have yE0 := (hW0.free hlE hneE).trans y0E0; have rE1 := (hW0.cell hlE hneE).trans r0E1; have yE1 := (hW0.free hlE hneE).trans y0E1; have rE2 := (hW0.cell hlE hneE).trans r0E2; have yE2 := (hW0.free hlE hneE).trans y0E2))
  all_goals refine bodyPost_ret (v := ?_) ?_ rfl ?_
  all_goals try (simp [results, Try.results74, go_sem, *]; exact rfl)
  all_goals exact ⟨⟨_, _, _, rfl⟩, by (repeat (refine Src.other ?_ (by simp; omega) _)); exact hS.more (by omega), by (repeat (refine Wrote.fresh ?_ (by simp; try omega) _)); exact hWV.trans hW0⟩
set_option maxRecDepth 100000 in
set_option maxHeartbeats 2000000 in
theorem drawProf_any (g n cp k : Nat) (a : Option Addr) (w : World) (hS : Src w g a n cp k) (hB : RowB w g a n) (hk : k ≤ 700000) (hn : n ≤ 1048576) :
    Calls Try.prog 88 #[.pointer (some ⟨g, 0, none⟩)] w fun e w' => (∃ v0 v1 v2 v3 v4 v5, e = .returned (.agg #[.int .i64 v0, .int .i64 v1, .int .i64 v2, .int .i64 v3, .int .i64 v4, .int .i64 v5])) ∧ Src w' g a n cp (k + 20) ∧ Wrote (some g) w w' := by
  have hlg := hS.lt
  go_enter Try.func88, Try.ntmps88
  go_upto_region 1 with fail
  generalize hW : World.alloc _ _ = W
  have xW : Ext w W := by rw [← hW]; exact (Ext.refl _).alloc _
  have hlR : w.heap.size < W.heap.size := by rw [← hW]; simp
  have hneR : some w.heap.size ≠ some g := fun e => by injection e; omega
  have r00 : W.cell? ⟨w.heap.size, 0, none⟩ = some (.int .i64 0) := by rw [← hW]; simp [go_sem]
  have y00 : W.frozen? ⟨w.heap.size, 0, none⟩ = false := by rw [← hW]; simp
  have r01 : W.cell? ⟨w.heap.size, 1, none⟩ = some (.int .i64 0) := by rw [← hW]; simp [go_sem]
  have y01 : W.frozen? ⟨w.heap.size, 1, none⟩ = false := by rw [← hW]; simp
  have r02 : W.cell? ⟨w.heap.size, 2, none⟩ = some (.int .i64 0) := by rw [← hW]; simp [go_sem]
  have y02 : W.frozen? ⟨w.heap.size, 2, none⟩ = false := by rw [← hW]; simp
  have r03 : W.cell? ⟨w.heap.size, 3, none⟩ = some (.int .i64 0) := by rw [← hW]; simp [go_sem]
  have y03 : W.frozen? ⟨w.heap.size, 3, none⟩ = false := by rw [← hW]; simp
  have r04 : W.cell? ⟨w.heap.size, 4, none⟩ = some (.int .i64 0) := by rw [← hW]; simp [go_sem]
  have y04 : W.frozen? ⟨w.heap.size, 4, none⟩ = false := by rw [← hW]; simp
  have r05 : W.cell? ⟨w.heap.size, 5, none⟩ = some (.int .i64 0) := by rw [← hW]; simp [go_sem]
  have y05 : W.frozen? ⟨w.heap.size, 5, none⟩ = false := by rw [← hW]; simp
  clear hW
  replace hS := hS.ext xW
  replace hB := hB.ext xW
  have hW0 := Wrote.refl (some g) W
  have r0 := r00
  have y0 := y00
  have r1 := r01
  have y1 := y01
  have r2 := r02
  have y2 := y02
  have r3 := r03
  have y3 := y03
  have r4 := r04
  have y4 := y04
  have r5 := r05
  have y5 := y05
  go_wp2_with (first | (go_at_call 72; refine (one_any g n cp _ _ a _ (by first | exact hS | exact hS.ext ((Ext.refl _).alloc _) | exact hS.ext (((Ext.refl _).alloc _).alloc _) | exact hS.ext ((((Ext.refl _).alloc _).alloc _).alloc _)) (by first | exact hB | exact hB.ext ((Ext.refl _).alloc _) | exact hB.ext (((Ext.refl _).alloc _).alloc _) | exact hB.ext ((((Ext.refl _).alloc _).alloc _).alloc _)) (by omega) hn).mono ?_; rintro e w1 ⟨x, rfl, hS2, hW⟩; (first | replace hW0 := hW0.trans hW | replace hW0 := (hW0.trans (Wrote.alloc _ _ _)).trans hW | replace hW0 := ((hW0.trans (Wrote.alloc _ _ _)).trans (Wrote.alloc _ _ _)).trans hW | replace hW0 := (((hW0.trans (Wrote.alloc _ _ _)).trans (Wrote.alloc _ _ _)).trans (Wrote.alloc _ _ _)).trans hW); (first | replace hB := hB.wrote hW | replace hB := (hB.ext ((Ext.refl _).alloc _)).wrote hW | replace hB := (hB.ext (((Ext.refl _).alloc _).alloc _)).wrote hW | replace hB := (hB.ext ((((Ext.refl _).alloc _).alloc _).alloc _)).wrote hW); clear hS hW; have hS := hS2; clear hS2; (try clear r0 y0 r1 y1 r2 y2 r3 y3 r4 y4 r5 y5); have r0 := (hW0.cell hlR hneR).trans r00; have y0 := (hW0.free hlR hneR).trans y00; have r1 := (hW0.cell hlR hneR).trans r01; have y1 := (hW0.free hlR hneR).trans y01; have r2 := (hW0.cell hlR hneR).trans r02; have y2 := (hW0.free hlR hneR).trans y02; have r3 := (hW0.cell hlR hneR).trans r03; have y3 := (hW0.free hlR hneR).trans y03; have r4 := (hW0.cell hlR hneR).trans r04; have y4 := (hW0.free hlR hneR).trans y04; have r5 := (hW0.cell hlR hneR).trans r05; have y5 := (hW0.free hlR hneR).trans y05) | (go_at_call 71; refine (pick_any g n cp _ _ a _ (by first | exact hS | exact hS.ext ((Ext.refl _).alloc _) | exact hS.ext (((Ext.refl _).alloc _).alloc _) | exact hS.ext ((((Ext.refl _).alloc _).alloc _).alloc _)) (by first | exact hB | exact hB.ext ((Ext.refl _).alloc _) | exact hB.ext (((Ext.refl _).alloc _).alloc _) | exact hB.ext ((((Ext.refl _).alloc _).alloc _).alloc _)) (by omega) hn).mono ?_; rintro e w1 ⟨x, rfl, hx, hS2, hW⟩; (first | replace hW0 := hW0.trans hW | replace hW0 := (hW0.trans (Wrote.alloc _ _ _)).trans hW | replace hW0 := ((hW0.trans (Wrote.alloc _ _ _)).trans (Wrote.alloc _ _ _)).trans hW | replace hW0 := (((hW0.trans (Wrote.alloc _ _ _)).trans (Wrote.alloc _ _ _)).trans (Wrote.alloc _ _ _)).trans hW); (first | replace hB := hB.wrote hW | replace hB := (hB.ext ((Ext.refl _).alloc _)).wrote hW | replace hB := (hB.ext (((Ext.refl _).alloc _).alloc _)).wrote hW | replace hB := (hB.ext ((((Ext.refl _).alloc _).alloc _).alloc _)).wrote hW); clear hS hW; have hS := hS2; clear hS2; (try clear r0 y0 r1 y1 r2 y2 r3 y3 r4 y4 r5 y5); have r0 := (hW0.cell hlR hneR).trans r00; have y0 := (hW0.free hlR hneR).trans y00; have r1 := (hW0.cell hlR hneR).trans r01; have y1 := (hW0.free hlR hneR).trans y01; have r2 := (hW0.cell hlR hneR).trans r02; have y2 := (hW0.free hlR hneR).trans y02; have r3 := (hW0.cell hlR hneR).trans r03; have y3 := (hW0.free hlR hneR).trans y03; have r4 := (hW0.cell hlR hneR).trans r04; have y4 := (hW0.free hlR hneR).trans y04; have r5 := (hW0.cell hlR hneR).trans r05; have y5 := (hW0.free hlR hneR).trans y05) | (go_at_call 73; refine (among_any g n cp _ _ _ _ _ _ a _ (by first | exact hS | exact hS.ext ((Ext.refl _).alloc _) | exact hS.ext (((Ext.refl _).alloc _).alloc _) | exact hS.ext ((((Ext.refl _).alloc _).alloc _).alloc _)) (by first | exact hB | exact hB.ext ((Ext.refl _).alloc _) | exact hB.ext (((Ext.refl _).alloc _).alloc _) | exact hB.ext ((((Ext.refl _).alloc _).alloc _).alloc _)) (by omega) hn (by first | exact lit2 _ _ _ | exact lit3 _ _ _ _ | exact lit4 _ _ _ _ _ | exact lit5 _ _ _ _ _ _) (by omega) (by have := hS.lt; simp; omega)).mono ?_; rintro e w1 ⟨x, rfl, hS2, hW⟩; (first | replace hW0 := hW0.trans hW | replace hW0 := (hW0.trans (Wrote.alloc _ _ _)).trans hW | replace hW0 := ((hW0.trans (Wrote.alloc _ _ _)).trans (Wrote.alloc _ _ _)).trans hW | replace hW0 := (((hW0.trans (Wrote.alloc _ _ _)).trans (Wrote.alloc _ _ _)).trans (Wrote.alloc _ _ _)).trans hW); (first | replace hB := hB.wrote hW | replace hB := (hB.ext ((Ext.refl _).alloc _)).wrote hW | replace hB := (hB.ext (((Ext.refl _).alloc _).alloc _)).wrote hW | replace hB := (hB.ext ((((Ext.refl _).alloc _).alloc _).alloc _)).wrote hW); clear hS hW; have hS := hS2; clear hS2; (try clear r0 y0 r1 y1 r2 y2 r3 y3 r4 y4 r5 y5); have r0 := (hW0.cell hlR hneR).trans r00; have y0 := (hW0.free hlR hneR).trans y00; have r1 := (hW0.cell hlR hneR).trans r01; have y1 := (hW0.free hlR hneR).trans y01; have r2 := (hW0.cell hlR hneR).trans r02; have y2 := (hW0.free hlR hneR).trans y02; have r3 := (hW0.cell hlR hneR).trans r03; have y3 := (hW0.free hlR hneR).trans y03; have r4 := (hW0.cell hlR hneR).trans r04; have y4 := (hW0.free hlR hneR).trans y04; have r5 := (hW0.cell hlR hneR).trans r05; have y5 := (hW0.free hlR hneR).trans y05) | (go_at_call 86; refine (drawAngle_any g n cp _ a _ (by first | exact hS | exact hS.ext ((Ext.refl _).alloc _) | exact hS.ext (((Ext.refl _).alloc _).alloc _) | exact hS.ext ((((Ext.refl _).alloc _).alloc _).alloc _)) (by first | exact hB | exact hB.ext ((Ext.refl _).alloc _) | exact hB.ext (((Ext.refl _).alloc _).alloc _) | exact hB.ext ((((Ext.refl _).alloc _).alloc _).alloc _)) (by omega) hn).mono ?_; rintro e w1 ⟨⟨v3, v4, v5, rfl⟩, hS2, hW⟩; (first | replace hW0 := hW0.trans hW | replace hW0 := (hW0.trans (Wrote.alloc _ _ _)).trans hW | replace hW0 := ((hW0.trans (Wrote.alloc _ _ _)).trans (Wrote.alloc _ _ _)).trans hW | replace hW0 := (((hW0.trans (Wrote.alloc _ _ _)).trans (Wrote.alloc _ _ _)).trans (Wrote.alloc _ _ _)).trans hW); (first | replace hB := hB.wrote hW | replace hB := (hB.ext ((Ext.refl _).alloc _)).wrote hW | replace hB := (hB.ext (((Ext.refl _).alloc _).alloc _)).wrote hW | replace hB := (hB.ext ((((Ext.refl _).alloc _).alloc _).alloc _)).wrote hW); clear hS hW; have hS := hS2; clear hS2; (try clear r0 y0 r1 y1 r2 y2 r3 y3 r4 y4 r5 y5); have r0 := (hW0.cell hlR hneR).trans r00; have y0 := (hW0.free hlR hneR).trans y00; have r1 := (hW0.cell hlR hneR).trans r01; have y1 := (hW0.free hlR hneR).trans y01; have r2 := (hW0.cell hlR hneR).trans r02; have y2 := (hW0.free hlR hneR).trans y02; have r3 := (hW0.cell hlR hneR).trans r03; have y3 := (hW0.free hlR hneR).trans y03; have r4 := (hW0.cell hlR hneR).trans r04; have y4 := (hW0.free hlR hneR).trans y04; have r5 := (hW0.cell hlR hneR).trans r05; have y5 := (hW0.free hlR hneR).trans y05))
  all_goals refine bodyPost_ret (v := ?_) ?_ rfl ?_
  all_goals try (simp [results, Try.results88, go_sem, *]; exact rfl)
  all_goals exact ⟨⟨_, _, _, _, _, _, rfl⟩, by (repeat (refine Src.other ?_ (by simp; omega) _)); exact hS.more (by omega), by (repeat (refine Wrote.fresh ?_ (by simp) _)); exact (Wrote.of_ext _ xW).trans hW0⟩
set_option maxRecDepth 100000 in
set_option maxHeartbeats 2000000 in
theorem drawBentProf_any (g n cp k : Nat) (a : Option Addr) (w : World) (hS : Src w g a n cp k) (hB : RowB w g a n) (hk : k ≤ 600000) (hn : n ≤ 1048576) :
    Calls Try.prog 82 #[.pointer (some ⟨g, 0, none⟩)] w fun e w' => (∃ v0 v1 v2 v3 v4 v5, e = .returned (.agg #[.int .i64 v0, .int .i64 v1, .int .i64 v2, .int .i64 v3, .int .i64 v4, .int .i64 v5])) ∧ Src w' g a n cp (k + 24) ∧ Wrote (some g) w w' := by
  have hlg := hS.lt
  go_enter Try.func82, Try.ntmps82
  go_upto_region 1 with fail
  generalize hW : World.alloc _ _ = W
  have xW : Ext w W := by rw [← hW]; exact (Ext.refl _).alloc _
  have hlR : w.heap.size < W.heap.size := by rw [← hW]; simp
  have hneR : some w.heap.size ≠ some g := fun e => by injection e; omega
  have r0R0 : W.cell? ⟨w.heap.size, 0, none⟩ = some (.int .i64 0) := by rw [← hW]; simp [go_sem]
  have y0R0 : W.frozen? ⟨w.heap.size, 0, none⟩ = false := by rw [← hW]; simp
  have r0R1 : W.cell? ⟨w.heap.size, 1, none⟩ = some (.int .i64 0) := by rw [← hW]; simp [go_sem]
  have y0R1 : W.frozen? ⟨w.heap.size, 1, none⟩ = false := by rw [← hW]; simp
  have r0R2 : W.cell? ⟨w.heap.size, 2, none⟩ = some (.int .i64 0) := by rw [← hW]; simp [go_sem]
  have y0R2 : W.frozen? ⟨w.heap.size, 2, none⟩ = false := by rw [← hW]; simp
  have r0R3 : W.cell? ⟨w.heap.size, 3, none⟩ = some (.int .i64 0) := by rw [← hW]; simp [go_sem]
  have y0R3 : W.frozen? ⟨w.heap.size, 3, none⟩ = false := by rw [← hW]; simp
  have r0R4 : W.cell? ⟨w.heap.size, 4, none⟩ = some (.int .i64 0) := by rw [← hW]; simp [go_sem]
  have y0R4 : W.frozen? ⟨w.heap.size, 4, none⟩ = false := by rw [← hW]; simp
  have r0R5 : W.cell? ⟨w.heap.size, 5, none⟩ = some (.int .i64 0) := by rw [← hW]; simp [go_sem]
  have y0R5 : W.frozen? ⟨w.heap.size, 5, none⟩ = false := by rw [← hW]; simp
  clear hW
  replace hS := hS.ext xW
  replace hB := hB.ext xW
  go_upto_region 2 with (go_at_call 88; refine (drawProf_any g n cp _ a _ hS hB (by omega) hn).mono ?_; rintro e w1 ⟨⟨v0, v1, v2, v3, v4, v5, rfl⟩, hS2, hWc⟩)
  generalize hV : World.alloc _ _ = V
  have xV : Ext w1 V := by rw [← hV]; exact (Ext.refl _).alloc _
  have hlE : w1.heap.size < V.heap.size := by rw [← hV]; simp
  have hs1 := hWc.size
  have hneE : some w1.heap.size ≠ some g := fun e => by injection e; have := hS2.lt; omega
  have hER : w1.heap.size ≠ w.heap.size := by omega
  have hRE : w.heap.size ≠ w1.heap.size := by omega
  have hl1 : w.heap.size < w1.heap.size := by omega
  have r0E0 : V.cell? ⟨w1.heap.size, 0, none⟩ = some (.int .i64 v0) := by rw [← hV]; simp [go_sem]
  have y0E0 : V.frozen? ⟨w1.heap.size, 0, none⟩ = false := by rw [← hV]; simp
  have r0E1 : V.cell? ⟨w1.heap.size, 1, none⟩ = some (.int .i64 v1) := by rw [← hV]; simp [go_sem]
  have y0E1 : V.frozen? ⟨w1.heap.size, 1, none⟩ = false := by rw [← hV]; simp
  have r0E2 : V.cell? ⟨w1.heap.size, 2, none⟩ = some (.int .i64 v2) := by rw [← hV]; simp [go_sem]
  have y0E2 : V.frozen? ⟨w1.heap.size, 2, none⟩ = false := by rw [← hV]; simp
  have r0E3 : V.cell? ⟨w1.heap.size, 3, none⟩ = some (.int .i64 v3) := by rw [← hV]; simp [go_sem]
  have y0E3 : V.frozen? ⟨w1.heap.size, 3, none⟩ = false := by rw [← hV]; simp
  have r0E4 : V.cell? ⟨w1.heap.size, 4, none⟩ = some (.int .i64 v4) := by rw [← hV]; simp [go_sem]
  have y0E4 : V.frozen? ⟨w1.heap.size, 4, none⟩ = false := by rw [← hV]; simp
  have r0E5 : V.cell? ⟨w1.heap.size, 5, none⟩ = some (.int .i64 v5) := by rw [← hV]; simp [go_sem]
  have y0E5 : V.frozen? ⟨w1.heap.size, 5, none⟩ = false := by rw [← hV]; simp
  replace r0R0 := (xV.cells.1 _ _ hl1).trans ((hWc.cell hlR hneR).trans r0R0)
  replace y0R0 := (xV.cells.2.1 _ _ hl1).trans ((hWc.free hlR hneR).trans y0R0)
  replace r0R1 := (xV.cells.1 _ _ hl1).trans ((hWc.cell hlR hneR).trans r0R1)
  replace y0R1 := (xV.cells.2.1 _ _ hl1).trans ((hWc.free hlR hneR).trans y0R1)
  replace r0R2 := (xV.cells.1 _ _ hl1).trans ((hWc.cell hlR hneR).trans r0R2)
  replace y0R2 := (xV.cells.2.1 _ _ hl1).trans ((hWc.free hlR hneR).trans y0R2)
  replace r0R3 := (xV.cells.1 _ _ hl1).trans ((hWc.cell hlR hneR).trans r0R3)
  replace y0R3 := (xV.cells.2.1 _ _ hl1).trans ((hWc.free hlR hneR).trans y0R3)
  replace r0R4 := (xV.cells.1 _ _ hl1).trans ((hWc.cell hlR hneR).trans r0R4)
  replace y0R4 := (xV.cells.2.1 _ _ hl1).trans ((hWc.free hlR hneR).trans y0R4)
  replace r0R5 := (xV.cells.1 _ _ hl1).trans ((hWc.cell hlR hneR).trans r0R5)
  replace y0R5 := (xV.cells.2.1 _ _ hl1).trans ((hWc.free hlR hneR).trans y0R5)
  replace hB := (hB.wrote hWc).ext xV
  replace hlR : w.heap.size < V.heap.size := by omega
  have hWV : Wrote (some g) w V := ((Wrote.of_ext _ xW).trans hWc).trans (Wrote.of_ext _ xV)
  have hws : w.heap.size ≤ w1.heap.size := by omega
  clear hS hV hWc
  have hS := hS2.ext xV
  clear hS2 xV
  generalize w1.heap.size = gE at *
  have hW0 := Wrote.refl (some g) V
  have rR0 := r0R0
  have yR0 := y0R0
  have rR1 := r0R1
  have yR1 := y0R1
  have rR2 := r0R2
  have yR2 := y0R2
  have rR3 := r0R3
  have yR3 := y0R3
  have rR4 := r0R4
  have yR4 := y0R4
  have rR5 := r0R5
  have yR5 := y0R5
  have rE0 := r0E0
  have yE0 := y0E0
  have rE1 := r0E1
  have yE1 := y0E1
  have rE2 := r0E2
  have yE2 := y0E2
  have rE3 := r0E3
  have yE3 := y0E3
  have rE4 := r0E4
  have yE4 := y0E4
  have rE5 := r0E5
  have yE5 := y0E5
  go_wp2_with (first | (go_at_call 71; refine (pick_any g n cp _ _ a _ (by first | exact hS | exact hS.ext ((Ext.refl _).alloc _) | exact hS.ext (((Ext.refl _).alloc _).alloc _) | exact hS.ext ((((Ext.refl _).alloc _).alloc _).alloc _)) (by first | exact hB | exact hB.ext ((Ext.refl _).alloc _) | exact hB.ext (((Ext.refl _).alloc _).alloc _) | exact hB.ext ((((Ext.refl _).alloc _).alloc _).alloc _)) (by omega) hn).mono ?_; rintro e w1 ⟨x, rfl, hx, hS2, hW⟩; (first | replace hW0 := hW0.trans hW | replace hW0 := (hW0.trans (Wrote.alloc _ _ _)).trans hW | replace hW0 := ((hW0.trans (Wrote.alloc _ _ _)).trans (Wrote.alloc _ _ _)).trans hW | replace hW0 := (((hW0.trans (Wrote.alloc _ _ _)).trans (Wrote.alloc _ _ _)).trans (Wrote.alloc _ _ _)).trans hW); (first | replace hB := hB.wrote hW | replace hB := (hB.ext ((Ext.refl _).alloc _)).wrote hW | replace hB := (hB.ext (((Ext.refl _).alloc _).alloc _)).wrote hW | replace hB := (hB.ext ((((Ext.refl _).alloc _).alloc _).alloc _)).wrote hW); clear hS hW; have hS := hS2; clear hS2; (try clear rR0 yR0 rR1 yR1 rR2 yR2 rR3 yR3 rR4 yR4 rR5 yR5 rE0 yE0 rE1 yE1 rE2 yE2 rE3 yE3 rE4 yE4 rE5 yE5); have rR0 := (hW0.cell hlR hneR).trans r0R0; have yR0 := (hW0.free hlR hneR).trans y0R0; have rR1 := (hW0.cell hlR hneR).trans r0R1; have yR1 := (hW0.free hlR hneR).trans y0R1; have rR2 := (hW0.cell hlR hneR).trans r0R2; have yR2 := (hW0.free hlR hneR).trans y0R2; have rR3 := (hW0.cell hlR hneR).trans r0R3; have yR3 := (hW0.free hlR hneR).trans y0R3; have rR4 := (hW0.cell hlR hneR).trans r0R4; have yR4 := (hW0.free hlR hneR).trans y0R4; have rR5 := (hW0.cell hlR hneR).trans r0R5; have yR5 := (hW0.free hlR hneR).trans y0R5; have rE0 := (hW0.cell hlE hneE).trans r0E0; have yE0 := (hW0.free hlE hneE).trans y0E0; have rE1 := (hW0.cell hlE hneE).trans r0E1; have yE1 := (hW0.free hlE hneE).trans y0E1; have rE2 := (hW0.cell hlE hneE).trans r0E2; have yE2 := (hW0.free hlE hneE).trans y0E2; have rE3 := (hW0.cell hlE hneE).trans r0E3; have yE3 := (hW0.free hlE hneE).trans y0E3; have rE4 := (hW0.cell hlE hneE).trans r0E4; have yE4 := (hW0.free hlE hneE).trans y0E4; have rE5 := (hW0.cell hlE hneE).trans r0E5; have yE5 := (hW0.free hlE hneE).trans y0E5) | (go_at_call 73; refine (among_any g n cp _ _ _ _ _ _ a _ (by first | exact hS | exact hS.ext ((Ext.refl _).alloc _) | exact hS.ext (((Ext.refl _).alloc _).alloc _) | exact hS.ext ((((Ext.refl _).alloc _).alloc _).alloc _)) (by first | exact hB | exact hB.ext ((Ext.refl _).alloc _) | exact hB.ext (((Ext.refl _).alloc _).alloc _) | exact hB.ext ((((Ext.refl _).alloc _).alloc _).alloc _)) (by omega) hn (by first | exact lit2 _ _ _ | exact lit3 _ _ _ _ | exact lit4 _ _ _ _ _ | exact lit5 _ _ _ _ _ _) (by omega) (by have := hS.lt; simp; omega)).mono ?_; rintro e w1 ⟨x, rfl, hS2, hW⟩; (first | replace hW0 := hW0.trans hW | replace hW0 := (hW0.trans (Wrote.alloc _ _ _)).trans hW | replace hW0 := ((hW0.trans (Wrote.alloc _ _ _)).trans (Wrote.alloc _ _ _)).trans hW | replace hW0 := (((hW0.trans (Wrote.alloc _ _ _)).trans (Wrote.alloc _ _ _)).trans (Wrote.alloc _ _ _)).trans hW); (first | replace hB := hB.wrote hW | replace hB := (hB.ext ((Ext.refl _).alloc _)).wrote hW | replace hB := (hB.ext (((Ext.refl _).alloc _).alloc _)).wrote hW | replace hB := (hB.ext ((((Ext.refl _).alloc _).alloc _).alloc _)).wrote hW); clear hS hW; have hS := hS2; clear hS2; (try clear rR0 yR0 rR1 yR1 rR2 yR2 rR3 yR3 rR4 yR4 rR5 yR5 rE0 yE0 rE1 yE1 rE2 yE2 rE3 yE3 rE4 yE4 rE5 yE5); have rR0 := (hW0.cell hlR hneR).trans r0R0; have yR0 := (hW0.free hlR hneR).trans y0R0; have rR1 := (hW0.cell hlR hneR).trans r0R1; have yR1 := (hW0.free hlR hneR).trans y0R1; have rR2 := (hW0.cell hlR hneR).trans r0R2; have yR2 := (hW0.free hlR hneR).trans y0R2; have rR3 := (hW0.cell hlR hneR).trans r0R3; have yR3 := (hW0.free hlR hneR).trans y0R3; have rR4 := (hW0.cell hlR hneR).trans r0R4; have yR4 := (hW0.free hlR hneR).trans y0R4; have rR5 := (hW0.cell hlR hneR).trans r0R5; have yR5 := (hW0.free hlR hneR).trans y0R5; have rE0 := (hW0.cell hlE hneE).trans r0E0; have yE0 := (hW0.free hlE hneE).trans y0E0; have rE1 := (hW0.cell hlE hneE).trans r0E1; have yE1 := (hW0.free hlE hneE).trans y0E1; have rE2 := (hW0.cell hlE hneE).trans r0E2; have yE2 := (hW0.free hlE hneE).trans y0E2; have rE3 := (hW0.cell hlE hneE).trans r0E3; have yE3 := (hW0.free hlE hneE).trans y0E3; have rE4 := (hW0.cell hlE hneE).trans r0E4; have yE4 := (hW0.free hlE hneE).trans y0E4; have rE5 := (hW0.cell hlE hneE).trans r0E5; have yE5 := (hW0.free hlE hneE).trans y0E5))
  all_goals refine bodyPost_ret (v := ?_) ?_ rfl ?_
  all_goals try (simp [results, Try.results82, go_sem, *]; exact rfl)
  all_goals exact ⟨⟨_, _, _, _, _, _, rfl⟩, by (repeat (refine Src.other ?_ (by simp; omega) _)); exact hS.more (by omega), by (repeat (refine Wrote.fresh ?_ (by simp; try omega) _)); exact hWV.trans hW0⟩
end Go.Proofs.Ytbhhiodbhlhpmaa
