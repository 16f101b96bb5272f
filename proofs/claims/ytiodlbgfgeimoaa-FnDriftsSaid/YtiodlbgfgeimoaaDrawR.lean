/-
  What the laws on rates draw: it is there, and only the source has moved on.
-/
import Derived.Test.YtiodlbgfgeimoaaDrawI
namespace Go.Proofs.Ytiodlbgfgeimoaa
open Go.RowKit
set_option linter.unusedSimpArgs false
set_option linter.unusedVariables false

set_option maxRecDepth 100000 in
set_option maxHeartbeats 4000000 in
theorem drawTemp_any (g n cp k : Nat) (a : Option Addr) (w : World) (hS : Src w g a n cp k) (hB : RowB w g a n) (hk : k ≤ 800000) (hn : n ≤ 1048576) :
    Calls Try.prog 94 #[.pointer (some ⟨g, 0, none⟩)] w fun e w' => ∃ q, e = .returned (.int .i64 q) ∧ Src w' g a n cp (k + 4) ∧ Wrote (some g) w w' := by
  have hW0 := Wrote.refl (some g) w
  go_enter Try.func94, Try.ntmps94
  go_wp2_with (first | (go_at_call 97; refine (one_any g n cp _ _ a _ (by first | exact hS | exact hS.ext ((Ext.refl _).alloc _) | exact hS.ext (((Ext.refl _).alloc _).alloc _) | exact hS.ext ((((Ext.refl _).alloc _).alloc _).alloc _)) (by first | exact hB | exact hB.ext ((Ext.refl _).alloc _) | exact hB.ext (((Ext.refl _).alloc _).alloc _) | exact hB.ext ((((Ext.refl _).alloc _).alloc _).alloc _)) (by omega) hn).mono ?_; rintro e w1 ⟨x, rfl, hS2, hW⟩; (first | replace hW0 := hW0.trans hW | replace hW0 := (hW0.trans (Wrote.alloc _ _ _)).trans hW | replace hW0 := ((hW0.trans (Wrote.alloc _ _ _)).trans (Wrote.alloc _ _ _)).trans hW | replace hW0 := (((hW0.trans (Wrote.alloc _ _ _)).trans (Wrote.alloc _ _ _)).trans (Wrote.alloc _ _ _)).trans hW); (first | replace hB := hB.wrote hW | replace hB := (hB.ext ((Ext.refl _).alloc _)).wrote hW | replace hB := (hB.ext (((Ext.refl _).alloc _).alloc _)).wrote hW | replace hB := (hB.ext ((((Ext.refl _).alloc _).alloc _).alloc _)).wrote hW); clear hS hW; have hS := hS2; clear hS2) | (go_at_call 96; refine (pick_any g n cp _ _ a _ (by first | exact hS | exact hS.ext ((Ext.refl _).alloc _) | exact hS.ext (((Ext.refl _).alloc _).alloc _) | exact hS.ext ((((Ext.refl _).alloc _).alloc _).alloc _)) (by first | exact hB | exact hB.ext ((Ext.refl _).alloc _) | exact hB.ext (((Ext.refl _).alloc _).alloc _) | exact hB.ext ((((Ext.refl _).alloc _).alloc _).alloc _)) (by omega) hn).mono ?_; rintro e w1 ⟨x, rfl, hx, hS2, hW⟩; (first | replace hW0 := hW0.trans hW | replace hW0 := (hW0.trans (Wrote.alloc _ _ _)).trans hW | replace hW0 := ((hW0.trans (Wrote.alloc _ _ _)).trans (Wrote.alloc _ _ _)).trans hW | replace hW0 := (((hW0.trans (Wrote.alloc _ _ _)).trans (Wrote.alloc _ _ _)).trans (Wrote.alloc _ _ _)).trans hW); (first | replace hB := hB.wrote hW | replace hB := (hB.ext ((Ext.refl _).alloc _)).wrote hW | replace hB := (hB.ext (((Ext.refl _).alloc _).alloc _)).wrote hW | replace hB := (hB.ext ((((Ext.refl _).alloc _).alloc _).alloc _)).wrote hW); clear hS hW; have hS := hS2; clear hS2) | (go_at_call 98; refine (among_any g n cp _ _ _ _ _ _ a _ (by first | exact hS | exact hS.ext ((Ext.refl _).alloc _) | exact hS.ext (((Ext.refl _).alloc _).alloc _) | exact hS.ext ((((Ext.refl _).alloc _).alloc _).alloc _)) (by first | exact hB | exact hB.ext ((Ext.refl _).alloc _) | exact hB.ext (((Ext.refl _).alloc _).alloc _) | exact hB.ext ((((Ext.refl _).alloc _).alloc _).alloc _)) (by omega) hn (by first | exact lit2 _ _ _ | exact lit3 _ _ _ _ | exact lit4 _ _ _ _ _ | exact lit5 _ _ _ _ _ _) (by omega) (by have := hS.lt; simp; omega)).mono ?_; rintro e w1 ⟨x, rfl, hS2, hW⟩; (first | replace hW0 := hW0.trans hW | replace hW0 := (hW0.trans (Wrote.alloc _ _ _)).trans hW | replace hW0 := ((hW0.trans (Wrote.alloc _ _ _)).trans (Wrote.alloc _ _ _)).trans hW | replace hW0 := (((hW0.trans (Wrote.alloc _ _ _)).trans (Wrote.alloc _ _ _)).trans (Wrote.alloc _ _ _)).trans hW); (first | replace hB := hB.wrote hW | replace hB := (hB.ext ((Ext.refl _).alloc _)).wrote hW | replace hB := (hB.ext (((Ext.refl _).alloc _).alloc _)).wrote hW | replace hB := (hB.ext ((((Ext.refl _).alloc _).alloc _).alloc _)).wrote hW); clear hS hW; have hS := hS2; clear hS2))
  all_goals go_ret
  all_goals exact ⟨_, rfl, hS.more (by omega), hW0⟩
set_option maxRecDepth 100000 in
set_option maxHeartbeats 4000000 in
theorem drawRate_any (g n cp k : Nat) (a : Option Addr) (w : World) (hS : Src w g a n cp k) (hB : RowB w g a n) (hk : k ≤ 700000) (hn : n ≤ 1048576) :
    Calls Try.prog 93 #[.pointer (some ⟨g, 0, none⟩)] w fun e w' => (∃ v0 v1 v2 v3, e = .returned (.agg #[.int .i64 v0, .int .i64 v1, .int .i64 v2, .int .i64 v3])) ∧ Src w' g a n cp (k + 16) ∧ Wrote (some g) w w' := by
  have hlg := hS.lt
  go_enter Try.func93, Try.ntmps93
  go_upto_region 1 with fail
  generalize hW : World.alloc _ _ = W
  have xW : Ext w W := by rw [← hW]; exact (Ext.refl _).alloc _
  have hlR : w.heap.size < W.heap.size := by rw [← hW]; simp
  have hneR : some w.heap.size ≠ some g := fun e => by injection e; omega
  have r00 : W.cell? ⟨w.heap.size, 0, none⟩ = some (.int .i64 0) := by rw [← hW]; simp [go_sem]
  have y00 : W.frozen? ⟨w.heap.size, 0, none⟩ = false := by rw [← hW]; simp
  have r01 : W.cell? ⟨w.heap.size, 1, none⟩ = some (.int .i64 0) := by rw [← hW]; simp [go_sem]
  have y01 : W.frozen? ⟨w.heap.size, 1, none⟩ = false := by rw [← hW]; simp
  have r02 : W.cell? ⟨w.heap.size, 2, none⟩ = some (.int .i64 0) := by rw [← hW]; simp [go_sem]
  have y02 : W.frozen? ⟨w.heap.size, 2, none⟩ = false := by rw [← hW]; simp
  have r03 : W.cell? ⟨w.heap.size, 3, none⟩ = some (.int .i64 0) := by rw [← hW]; simp [go_sem]
  have y03 : W.frozen? ⟨w.heap.size, 3, none⟩ = false := by rw [← hW]; simp
  clear hW
  replace hS := hS.ext xW
  replace hB := hB.ext xW
  have hW0 := Wrote.refl (some g) W
  have r0 := r00
  have y0 := y00
  have r1 := r01
  have y1 := y01
  have r2 := r02
  have y2 := y02
  have r3 := r03
  have y3 := y03
  go_wp2_with (first | (go_at_call 97; refine (one_any g n cp _ _ a _ (by first | exact hS | exact hS.ext ((Ext.refl _).alloc _) | exact hS.ext (((Ext.refl _).alloc _).alloc _) | exact hS.ext ((((Ext.refl _).alloc _).alloc _).alloc _)) (by first | exact hB | exact hB.ext ((Ext.refl _).alloc _) | exact hB.ext (((Ext.refl _).alloc _).alloc _) | exact hB.ext ((((Ext.refl _).alloc _).alloc _).alloc _)) (by omega) hn).mono ?_; rintro e w1 ⟨x, rfl, hS2, hW⟩; (first | replace hW0 := hW0.trans hW | replace hW0 := (hW0.trans (Wrote.alloc _ _ _)).trans hW | replace hW0 := ((hW0.trans (Wrote.alloc _ _ _)).trans (Wrote.alloc _ _ _)).trans hW | replace hW0 := (((hW0.trans (Wrote.alloc _ _ _)).trans (Wrote.alloc _ _ _)).trans (Wrote.alloc _ _ _)).trans hW); (first | replace hB := hB.wrote hW | replace hB := (hB.ext ((Ext.refl _).alloc _)).wrote hW | replace hB := (hB.ext (((Ext.refl _).alloc _).alloc _)).wrote hW | replace hB := (hB.ext ((((Ext.refl _).alloc _).alloc _).alloc _)).wrote hW); clear hS hW; have hS := hS2; clear hS2; (try clear r0 y0 r1 y1 r2 y2 r3 y3); have r0 := (hW0.cell hlR hneR).trans r00; have y0 := (hW0.free hlR hneR).trans y00; have r1 := (hW0.cell hlR hneR).trans r01; have y1 := (hW0.free hlR hneR).trans y01; have r2 := (hW0.cell hlR hneR).trans r02; have y2 := (hW0.free hlR hneR).trans y02; have r3 := (hW0.cell hlR hneR).trans r03; have y3 := (hW0.free hlR hneR).trans y03) | (go_at_call 96; refine (pick_any g n cp _ _ a _ (by first | exact hS | exact hS.ext ((Ext.refl _).alloc _) | exact hS.ext (((Ext.refl _).alloc _).alloc _) | exact hS.ext ((((Ext.refl _).alloc _).alloc _).alloc _)) (by first | exact hB | exact hB.ext ((Ext.refl _).alloc _) | exact hB.ext (((Ext.refl _).alloc _).alloc _) | exact hB.ext ((((Ext.refl _).alloc _).alloc _).alloc _)) (by omega) hn).mono ?_; rintro e w1 ⟨x, rfl, hx, hS2, hW⟩; (first | replace hW0 := hW0.trans hW | replace hW0 := (hW0.trans (Wrote.alloc _ _ _)).trans hW | replace hW0 := ((hW0.trans (Wrote.alloc _ _ _)).trans (Wrote.alloc _ _ _)).trans hW | replace hW0 := (((hW0.trans (Wrote.alloc _ _ _)).trans (Wrote.alloc _ _ _)).trans (Wrote.alloc _ _ _)).trans hW); (first | replace hB := hB.wrote hW | replace hB := (hB.ext ((Ext.refl _).alloc _)).wrote hW | replace hB := (hB.ext (((Ext.refl _).alloc _).alloc _)).wrote hW | replace hB := (hB.ext ((((Ext.refl _).alloc _).alloc _).alloc _)).wrote hW); clear hS hW; have hS := hS2; clear hS2; (try clear r0 y0 r1 y1 r2 y2 r3 y3); have r0 := (hW0.cell hlR hneR).trans r00; have y0 := (hW0.free hlR hneR).trans y00; have r1 := (hW0.cell hlR hneR).trans r01; have y1 := (hW0.free hlR hneR).trans y01; have r2 := (hW0.cell hlR hneR).trans r02; have y2 := (hW0.free hlR hneR).trans y02; have r3 := (hW0.cell hlR hneR).trans r03; have y3 := (hW0.free hlR hneR).trans y03) | (go_at_call 98; refine (among_any g n cp _ _ _ _ _ _ a _ (by first | exact hS | exact hS.ext ((Ext.refl _).alloc _) | exact hS.ext (((Ext.refl _).alloc _).alloc _) | exact hS.ext ((((Ext.refl _).alloc _).alloc _).alloc _)) (by first | exact hB | exact hB.ext ((Ext.refl _).alloc _) | exact hB.ext (((Ext.refl _).alloc _).alloc _) | exact hB.ext ((((Ext.refl _).alloc _).alloc _).alloc _)) (by omega) hn (by first | exact lit2 _ _ _ | exact lit3 _ _ _ _ | exact lit4 _ _ _ _ _ | exact lit5 _ _ _ _ _ _) (by omega) (by have := hS.lt; simp; omega)).mono ?_; rintro e w1 ⟨x, rfl, hS2, hW⟩; (first | replace hW0 := hW0.trans hW | replace hW0 := (hW0.trans (Wrote.alloc _ _ _)).trans hW | replace hW0 := ((hW0.trans (Wrote.alloc _ _ _)).trans (Wrote.alloc _ _ _)).trans hW | replace hW0 := (((hW0.trans (Wrote.alloc _ _ _)).trans (Wrote.alloc _ _ _)).trans (Wrote.alloc _ _ _)).trans hW); (first | replace hB := hB.wrote hW | replace hB := (hB.ext ((Ext.refl _).alloc _)).wrote hW | replace hB := (hB.ext (((Ext.refl _).alloc _).alloc _)).wrote hW | replace hB := (hB.ext ((((Ext.refl _).alloc _).alloc _).alloc _)).wrote hW); clear hS hW; have hS := hS2; clear hS2; (try clear r0 y0 r1 y1 r2 y2 r3 y3); have r0 := (hW0.cell hlR hneR).trans r00; have y0 := (hW0.free hlR hneR).trans y00; have r1 := (hW0.cell hlR hneR).trans r01; have y1 := (hW0.free hlR hneR).trans y01; have r2 := (hW0.cell hlR hneR).trans r02; have y2 := (hW0.free hlR hneR).trans y02; have r3 := (hW0.cell hlR hneR).trans r03; have y3 := (hW0.free hlR hneR).trans y03))
  all_goals refine bodyPost_ret (v := ?_) ?_ rfl ?_
  all_goals try (simp [results, Try.results93, go_sem, *]; exact rfl)
  all_goals exact ⟨⟨_, _, _, _, rfl⟩, by (repeat (refine Src.other ?_ (by simp; omega) _)); exact hS.more (by omega), by (repeat (refine Wrote.fresh ?_ (by simp) _)); exact (Wrote.of_ext _ xW).trans hW0⟩
set_option maxRecDepth 100000 in
set_option maxHeartbeats 1000000 in
theorem drawRateAt_any (a : Option Addr) (n cp : Nat) (w : World) (hB0 : RowB w w.heap.size a n) (hn : n ≤ 1048576) :
    Calls Try.prog 85 #[.slice a n cp] w fun e w' => (∃ v0 v1 v2 v3 p, e = .returned (.tuple #[.agg #[.int .i64 v0, .int .i64 v1, .int .i64 v2, .int .i64 v3], .int .i64 p])) ∧ Ext w w' := by
  go_enter Try.func85, Try.ntmps85
  go_upto_region 1 with fail
  generalize hW : World.alloc _ _ = W
  have xW : Ext w W := by rw [← hW]; exact (Ext.refl _).alloc _
  have hlr : w.heap.size < W.heap.size := by rw [← hW]; simp; try omega
  have r0 : W.cell? ⟨w.heap.size, 0, none⟩ = some (.int .i64 0) := by rw [← hW]; simp [go_sem]
  have rz0 : W.frozen? ⟨w.heap.size, 0, none⟩ = false := by rw [← hW]; simp
  have r1 : W.cell? ⟨w.heap.size, 1, none⟩ = some (.int .i64 0) := by rw [← hW]; simp [go_sem]
  have rz1 : W.frozen? ⟨w.heap.size, 1, none⟩ = false := by rw [← hW]; simp
  have r2 : W.cell? ⟨w.heap.size, 2, none⟩ = some (.int .i64 0) := by rw [← hW]; simp [go_sem]
  have rz2 : W.frozen? ⟨w.heap.size, 2, none⟩ = false := by rw [← hW]; simp
  have r3 : W.cell? ⟨w.heap.size, 3, none⟩ = some (.int .i64 0) := by rw [← hW]; simp [go_sem]
  have rz3 : W.frozen? ⟨w.heap.size, 3, none⟩ = false := by rw [← hW]; simp
  clear hW
  have hgr := hlr
  go_upto_region 2 with (first | (go_at_call 88; refine (l00From_any a n cp _).mono ?_; rintro e w1 ⟨rfl, hS, x1⟩))
  have hB : RowB w1 W.heap.size a n := hB0.to (xW.trans x1) xW.size
  replace r0 := (x1.cells.1 _ _ hlr).trans r0
  replace rz0 := (x1.cells.2.1 _ _ hlr).trans rz0
  replace r1 := (x1.cells.1 _ _ hlr).trans r1
  replace rz1 := (x1.cells.2.1 _ _ hlr).trans rz1
  replace r2 := (x1.cells.1 _ _ hlr).trans r2
  replace rz2 := (x1.cells.2.1 _ _ hlr).trans rz2
  replace r3 := (x1.cells.1 _ _ hlr).trans r3
  replace rz3 := (x1.cells.2.1 _ _ hlr).trans rz3
  replace hlr := Nat.lt_of_lt_of_le hlr x1.size
  have hww : Ext w w1 := xW.trans x1
  clear x1 xW hB0
  generalize W.heap.size = g at *
  have hner : some w.heap.size ≠ some g := fun e => by injection e; omega
  go_upto_region 3 with (first | (go_at_call 93; refine (drawRate_any g n cp 0 a _ hS hB (by omega) hn).mono ?_; rintro e w2 ⟨⟨v0, v1, v2, v3, rfl⟩, hS2, hWc⟩))
  generalize hV : World.alloc _ _ = V
  have xV : Ext w2 V := by rw [← hV]; exact (Ext.refl _).alloc _
  have hX : Wrote (some g) w1 V := hWc.trans (Wrote.of_ext _ xV)
  have hs1 := hWc.size
  have hxr : w2.heap.size ≠ w.heap.size := by omega
  have hrx : w.heap.size ≠ w2.heap.size := by omega
  replace r0 := (hX.cell hlr hner).trans r0
  replace rz0 := (hX.free hlr hner).trans rz0
  replace r1 := (hX.cell hlr hner).trans r1
  replace rz1 := (hX.free hlr hner).trans rz1
  replace r2 := (hX.cell hlr hner).trans r2
  replace rz2 := (hX.free hlr hner).trans rz2
  replace r3 := (hX.cell hlr hner).trans r3
  replace rz3 := (hX.free hlr hner).trans rz3
  replace hlr := Nat.lt_of_lt_of_le hlr hX.size
  have hlx : w2.heap.size < V.heap.size := by rw [← hV]; simp; try omega
  have x0 : V.cell? ⟨w2.heap.size, 0, none⟩ = some (.int .i64 v0) := by rw [← hV]; simp [go_sem]
  have xz0 : V.frozen? ⟨w2.heap.size, 0, none⟩ = false := by rw [← hV]; simp
  have x1 : V.cell? ⟨w2.heap.size, 1, none⟩ = some (.int .i64 v1) := by rw [← hV]; simp [go_sem]
  have xz1 : V.frozen? ⟨w2.heap.size, 1, none⟩ = false := by rw [← hV]; simp
  have x2 : V.cell? ⟨w2.heap.size, 2, none⟩ = some (.int .i64 v2) := by rw [← hV]; simp [go_sem]
  have xz2 : V.frozen? ⟨w2.heap.size, 2, none⟩ = false := by rw [← hV]; simp
  have x3 : V.cell? ⟨w2.heap.size, 3, none⟩ = some (.int .i64 v3) := by rw [← hV]; simp [go_sem]
  have xz3 : V.frozen? ⟨w2.heap.size, 3, none⟩ = false := by rw [← hV]; simp
  have hnex : some w2.heap.size ≠ some g := fun e => by injection e; have := hS2.lt; omega
  replace hB := hB.wrote hX
  have hS := hS2.ext xV
  have hwV := Wrote.ext hww hX (fun k hk => by injection hk; omega)
  clear hV hWc hS2 xV hX hs1 hww
  generalize w2.heap.size = gX at *
  have hW0 := Wrote.refl (some g) V
  go_region_held3 (fun w' => w'.cell? ⟨gX, 0, none⟩ = some (.int .i64 v0) ∧ w'.cell? ⟨gX, 1, none⟩ = some (.int .i64 v1) ∧ w'.cell? ⟨gX, 2, none⟩ = some (.int .i64 v2) ∧ w'.cell? ⟨gX, 3, none⟩ = some (.int .i64 v3))
    (first | (refine ⟨?_, ?_, ?_, ?_⟩ <;> with_reducible assumption) | (refine ⟨?_, ?_, ?_, ?_⟩ <;> with_reducible (refine (kx _).trans ?_ <;> assumption)) | (refine ⟨?_, ?_, ?_, ?_⟩ <;> with_reducible ((repeat (refine keep_other (by assumption) ?_)); refine (kx _).trans ?_; assumption)) | go_keep)
    (first | (go_at_call 94; refine (drawTemp_any g n cp 16 a _ (by first | exact hS | exact hS.ext ((Ext.refl _).drew) | exact hS.ext ((Ext.refl _).drewN _)) (by first | exact hB | exact hB.ext ((Ext.refl _).drew) | exact hB.ext ((Ext.refl _).drewN _)) (by omega) hn).mono ?_; rintro e w9 ⟨p, rfl, hS2, hWc⟩; (first | replace hW0 := hW0.trans hWc | replace hW0 := (hW0.trans (Wrote.of_ext _ ((Ext.refl _).drew))).trans hWc | replace hW0 := (hW0.trans (Wrote.of_ext _ ((Ext.refl _).drewN _))).trans hWc); have kr : ∀ o, w9.cell? ⟨w.heap.size, o, none⟩ = _ := (fun o => hW0.cell hlr hner); have kzr : ∀ o, w9.frozen? ⟨w.heap.size, o, none⟩ = _ := (fun o => hW0.free hlr hner); have kx : ∀ o, w9.cell? ⟨gX, o, none⟩ = _ := (fun o => hW0.cell hlx hnex); have kzx : ∀ o, w9.frozen? ⟨gX, o, none⟩ = _ := (fun o => hW0.free hlx hnex)))
  all_goals go_wp2_with fail
  all_goals refine bodyPost_ret (v := ?_) ?_ rfl ?_
  all_goals try (simp [results, Try.results85, go_sem, *]; exact rfl)
  all_goals exact ⟨⟨_, _, _, _, _, rfl⟩, by (repeat (first | (with_reducible refine Ext.drew ?_) | (with_reducible refine Ext.setCell ?_ ?_ _; rotate_left; focus (first | (simp; done) | (simp; omega) | omega)))); exact Wrote.ext hwV hW0 (fun k hk => by injection hk; omega)⟩
set_option maxRecDepth 100000 in
set_option maxHeartbeats 1000000 in
theorem drawOther_any (a : Option Addr) (n cp : Nat) (w : World) (hB0 : RowB w w.heap.size a n) (hn : n ≤ 1048576) :
    Calls Try.prog 51 #[.slice a n cp] w fun e w' => (∃ v0 v1 v2 v3 p, e = .returned (.tuple #[.agg #[.int .i64 v0, .int .i64 v1, .int .i64 v2, .int .i64 v3], .int .i64 p])) ∧ Ext w w' := by
  go_enter Try.func51, Try.ntmps51
  go_upto_region 1 with fail
  generalize hW : World.alloc _ _ = W
  have xW : Ext w W := by rw [← hW]; exact (Ext.refl _).alloc _
  have hlr : w.heap.size < W.heap.size := by rw [← hW]; simp; try omega
  have r0 : W.cell? ⟨w.heap.size, 0, none⟩ = some (.int .i64 0) := by rw [← hW]; simp [go_sem]
  have rz0 : W.frozen? ⟨w.heap.size, 0, none⟩ = false := by rw [← hW]; simp
  have r1 : W.cell? ⟨w.heap.size, 1, none⟩ = some (.int .i64 0) := by rw [← hW]; simp [go_sem]
  have rz1 : W.frozen? ⟨w.heap.size, 1, none⟩ = false := by rw [← hW]; simp
  have r2 : W.cell? ⟨w.heap.size, 2, none⟩ = some (.int .i64 0) := by rw [← hW]; simp [go_sem]
  have rz2 : W.frozen? ⟨w.heap.size, 2, none⟩ = false := by rw [← hW]; simp
  have r3 : W.cell? ⟨w.heap.size, 3, none⟩ = some (.int .i64 0) := by rw [← hW]; simp [go_sem]
  have rz3 : W.frozen? ⟨w.heap.size, 3, none⟩ = false := by rw [← hW]; simp
  clear hW
  go_wp2_with (first | (go_at_call 85; refine (drawRateAt_any a n cp _ (hB0.to xW xW.size) hn).mono ?_; rintro e w1 ⟨⟨v0, v1, v2, v3, p, rfl⟩, x1⟩; have kr : ∀ o, w1.cell? ⟨w.heap.size, o, none⟩ = W.cell? ⟨w.heap.size, o, none⟩ := (fun o => x1.cells.1 _ _ hlr); have kzr : ∀ o, w1.frozen? ⟨w.heap.size, o, none⟩ = W.frozen? ⟨w.heap.size, o, none⟩ := (fun o => x1.cells.2.1 _ _ hlr)))
  refine bodyPost_ret (v := ?_) ?_ rfl ?_
  all_goals try (simp [results, Try.results51, go_sem, *]; exact rfl)
  exact ⟨⟨_, _, _, _, _, rfl⟩, by (repeat (first | (with_reducible refine Ext.drew ?_) | (with_reducible refine Ext.setCell ?_ ?_ _; rotate_left; focus (first | (simp; done) | (simp; omega) | omega)))); exact xW.trans x1⟩
end Go.Proofs.Ytiodlbgfgeimoaa
