/-
  What the law FnTeethSizes draws from a code.
-/
import Derived.Test.YtbhhiodbhlhpmaaDrawA
import Derived.Test.YtbhhiodbhlhpmaaTrain
namespace Go.Proofs.Ytbhhiodbhlhpmaa
open Go.RowKit
set_option linter.unusedSimpArgs false
set_option linter.unusedVariables false

set_option maxRecDepth 100000 in
set_option maxHeartbeats 2000000 in
theorem drawThick_any (a : Option Addr) (n cp : Nat) (w : World) (hB0 : RowB w w.heap.size a n) (hn : n ≤ 1048576) :
    Calls Try.prog 48 #[.slice a n cp] w fun e w' => (∃ v0 v1 v2 v3 v4 v5 p, e = .returned (.tuple #[.agg #[.int .i64 v0, .int .i64 v1, .int .i64 v2, .int .i64 v3, .int .i64 v4, .int .i64 v5], .int .i64 p])) ∧ Ext w w' := by
  go_enter Try.func48, Try.ntmps48
  go_upto_region 1 with fail
  generalize hW : World.alloc _ _ = W
  have xW : Ext w W := by rw [← hW]; exact (Ext.refl _).alloc _
  have hlr : w.heap.size < W.heap.size := by rw [← hW]; simp; try omega
  have r0 : W.cell? ⟨w.heap.size, 0, none⟩ = some (.int .i64 0) := by rw [← hW]; simp [go_sem]
  have rz0 : W.frozen? ⟨w.heap.size, 0, none⟩ = false := by rw [← hW]; simp
  have r1 : W.cell? ⟨w.heap.size, 1, none⟩ = some (.int .i64 0) := by rw [← hW]; simp [go_sem]
  have rz1 : W.frozen? ⟨w.heap.size, 1, none⟩ = false := by rw [← hW]; simp
  have r2 : W.cell? ⟨w.heap.size, 2, none⟩ = some (.int .i64 0) := by rw [← hW]; simp [go_sem]
  have rz2 : W.frozen? ⟨w.heap.size, 2, none⟩ = false := by rw [← hW]; simp
  have r3 : W.cell? ⟨w.heap.size, 3, none⟩ = some (.int .i64 0) := by rw [← hW]; simp [go_sem]
  have rz3 : W.frozen? ⟨w.heap.size, 3, none⟩ = false := by rw [← hW]; simp
  have r4 : W.cell? ⟨w.heap.size, 4, none⟩ = some (.int .i64 0) := by rw [← hW]; simp [go_sem]
  have rz4 : W.frozen? ⟨w.heap.size, 4, none⟩ = false := by rw [← hW]; simp
  have r5 : W.cell? ⟨w.heap.size, 5, none⟩ = some (.int .i64 0) := by rw [← hW]; simp [go_sem]
  have rz5 : W.frozen? ⟨w.heap.size, 5, none⟩ = false := by rw [← hW]; simp
  clear hW
  have hgr := hlr
  go_upto_region 2 with (first | (go_at_call 70; refine (l00From_any a n cp _).mono ?_; rintro e w1 ⟨rfl, hS, x1⟩))
  have hB : RowB w1 W.heap.size a n := hB0.to (xW.trans x1) xW.size
  replace r0 := (x1.cells.1 _ _ hlr).trans r0
  replace rz0 := (x1.cells.2.1 _ _ hlr).trans rz0
  replace r1 := (x1.cells.1 _ _ hlr).trans r1
  replace rz1 := (x1.cells.2.1 _ _ hlr).trans rz1
  replace r2 := (x1.cells.1 _ _ hlr).trans r2
  replace rz2 := (x1.cells.2.1 _ _ hlr).trans rz2
  replace r3 := (x1.cells.1 _ _ hlr).trans r3
  replace rz3 := (x1.cells.2.1 _ _ hlr).trans rz3
  replace r4 := (x1.cells.1 _ _ hlr).trans r4
  replace rz4 := (x1.cells.2.1 _ _ hlr).trans rz4
  replace r5 := (x1.cells.1 _ _ hlr).trans r5
  replace rz5 := (x1.cells.2.1 _ _ hlr).trans rz5
  replace hlr := Nat.lt_of_lt_of_le hlr x1.size
  have hww : Ext w w1 := xW.trans x1
  clear x1 xW hB0
  generalize W.heap.size = g at *
  have hner : some w.heap.size ≠ some g := fun e => by injection e; omega
  go_upto_region 3 with (first | (go_at_call 82; refine (drawBentProf_any g n cp 0 a _ hS hB (by omega) hn).mono ?_; rintro e w2 ⟨⟨v0, v1, v2, v3, v4, v5, rfl⟩, hS2, hWc⟩))
  generalize hV : World.alloc _ _ = V
  have xV : Ext w2 V := by rw [← hV]; exact (Ext.refl _).alloc _
  have hX : Wrote (some g) w1 V := hWc.trans (Wrote.of_ext _ xV)
  have hs1 := hWc.size
  have hxr : w2.heap.size ≠ w.heap.size := by omega
  have hrx : w.heap.size ≠ w2.heap.size := by omega
  replace r0 := (hX.cell hlr hner).trans r0
  replace rz0 := (hX.free hlr hner).trans rz0
  replace r1 := (hX.cell hlr hner).trans r1
  replace rz1 := (hX.free hlr hner).trans rz1
  replace r2 := (hX.cell hlr hner).trans r2
  replace rz2 := (hX.free hlr hner).trans rz2
  replace r3 := (hX.cell hlr hner).trans r3
  replace rz3 := (hX.free hlr hner).trans rz3
  replace r4 := (hX.cell hlr hner).trans r4
  replace rz4 := (hX.free hlr hner).trans rz4
  replace r5 := (hX.cell hlr hner).trans r5
  replace rz5 := (hX.free hlr hner).trans rz5
  replace hlr := Nat.lt_of_lt_of_le hlr hX.size
  have hlx : w2.heap.size < V.heap.size := by rw [← hV]; simp; try omega
  have x0 : V.cell? ⟨w2.heap.size, 0, none⟩ = some (.int .i64 v0) := by rw [← hV]; simp [go_sem]
  have xz0 : V.frozen? ⟨w2.heap.size, 0, none⟩ = false := by rw [← hV]; simp
  have x1 : V.cell? ⟨w2.heap.size, 1, none⟩ = some (.int .i64 v1) := by rw [← hV]; simp [go_sem]
  have xz1 : V.frozen? ⟨w2.heap.size, 1, none⟩ = false := by rw [← hV]; simp
  have x2 : V.cell? ⟨w2.heap.size, 2, none⟩ = some (.int .i64 v2) := by rw [← hV]; simp [go_sem]
  have xz2 : V.frozen? ⟨w2.heap.size, 2, none⟩ = false := by rw [← hV]; simp
  have x3 : V.cell? ⟨w2.heap.size, 3, none⟩ = some (.int .i64 v3) := by rw [← hV]; simp [go_sem]
  have xz3 : V.frozen? ⟨w2.heap.size, 3, none⟩ = false := by rw [← hV]; simp
  have x4 : V.cell? ⟨w2.heap.size, 4, none⟩ = some (.int .i64 v4) := by rw [← hV]; simp [go_sem]
  have xz4 : V.frozen? ⟨w2.heap.size, 4, none⟩ = false := by rw [← hV]; simp
  have x5 : V.cell? ⟨w2.heap.size, 5, none⟩ = some (.int .i64 v5) := by rw [← hV]; simp [go_sem]
  have xz5 : V.frozen? ⟨w2.heap.size, 5, none⟩ = false := by rw [← hV]; simp
  have hnex : some w2.heap.size ≠ some g := fun e => by injection e; have := hS2.lt; omega
  replace hB := hB.wrote hX
  have hS := hS2.ext xV
  have hwV := Wrote.ext hww hX (fun k hk => by injection hk; omega)
  clear hV hWc hS2 xV hX hs1 hww
  generalize w2.heap.size = gX at *
  have hW0 := Wrote.refl (some g) V
  go_wp2_with (first | (go_at_call 71; refine (pick_any g n cp _ _ a _ (by first | exact hS | exact hS.ext ((Ext.refl _).alloc _) | exact hS.ext (((Ext.refl _).alloc _).alloc _) | exact hS.ext ((((Ext.refl _).alloc _).alloc _).alloc _) | exact hS.ext ((Ext.refl _).drew) | exact hS.ext ((Ext.refl _).drew.alloc _) | exact hS.ext ((Ext.refl _).alloc _).drew) (by first | exact hB | exact hB.ext ((Ext.refl _).alloc _) | exact hB.ext (((Ext.refl _).alloc _).alloc _) | exact hB.ext ((((Ext.refl _).alloc _).alloc _).alloc _) | exact hB.ext ((Ext.refl _).drew) | exact hB.ext ((Ext.refl _).drew.alloc _) | exact hB.ext ((Ext.refl _).alloc _).drew) (by omega) hn).mono ?_; rintro e w5 ⟨p, rfl, hx, hS2, hW⟩; (first | replace hW0 := hW0.trans hW | replace hW0 := (hW0.trans (Wrote.alloc _ _ _)).trans hW | replace hW0 := ((hW0.trans (Wrote.alloc _ _ _)).trans (Wrote.alloc _ _ _)).trans hW | replace hW0 := (((hW0.trans (Wrote.alloc _ _ _)).trans (Wrote.alloc _ _ _)).trans (Wrote.alloc _ _ _)).trans hW | replace hW0 := (hW0.trans (Wrote.of_ext _ ((Ext.refl _).drew))).trans hW | replace hW0 := (hW0.trans (Wrote.of_ext _ ((Ext.refl _).drew.alloc _))).trans hW | replace hW0 := (hW0.trans (Wrote.of_ext _ ((Ext.refl _).alloc _).drew)).trans hW); (first | replace hB := hB.wrote hW | replace hB := (hB.ext ((Ext.refl _).alloc _)).wrote hW | replace hB := (hB.ext (((Ext.refl _).alloc _).alloc _)).wrote hW | replace hB := (hB.ext ((((Ext.refl _).alloc _).alloc _).alloc _)).wrote hW | replace hB := (hB.ext ((Ext.refl _).drew)).wrote hW | replace hB := (hB.ext ((Ext.refl _).drew.alloc _)).wrote hW | replace hB := (hB.ext ((Ext.refl _).alloc _).drew).wrote hW); clear hS hW; have hS := hS2; clear hS2; (try clear kr kzr kx kzx); have kr : ∀ o, w5.cell? ⟨w.heap.size, o, none⟩ = _ := (fun o => hW0.cell hlr hner); have kzr : ∀ o, w5.frozen? ⟨w.heap.size, o, none⟩ = _ := (fun o => hW0.free hlr hner); have kx : ∀ o, w5.cell? ⟨gX, o, none⟩ = _ := (fun o => hW0.cell hlx hnex); have kzx : ∀ o, w5.frozen? ⟨gX, o, none⟩ = _ := (fun o => hW0.free hlx hnex)) | (go_at_call 72; refine (one_any g n cp _ _ a _ (by first | exact hS | exact hS.ext ((Ext.refl _).alloc _) | exact hS.ext (((Ext.refl _).alloc _).alloc _) | exact hS.ext ((((Ext.refl _).alloc _).alloc _).alloc _) | exact hS.ext ((Ext.refl _).drew) | exact hS.ext ((Ext.refl _).drew.alloc _) | exact hS.ext ((Ext.refl _).alloc _).drew) (by first | exact hB | exact hB.ext ((Ext.refl _).alloc _) | exact hB.ext (((Ext.refl _).alloc _).alloc _) | exact hB.ext ((((Ext.refl _).alloc _).alloc _).alloc _) | exact hB.ext ((Ext.refl _).drew) | exact hB.ext ((Ext.refl _).drew.alloc _) | exact hB.ext ((Ext.refl _).alloc _).drew) (by omega) hn).mono ?_; rintro e w5 ⟨c, rfl, hS2, hW⟩; (first | replace hW0 := hW0.trans hW | replace hW0 := (hW0.trans (Wrote.alloc _ _ _)).trans hW | replace hW0 := ((hW0.trans (Wrote.alloc _ _ _)).trans (Wrote.alloc _ _ _)).trans hW | replace hW0 := (((hW0.trans (Wrote.alloc _ _ _)).trans (Wrote.alloc _ _ _)).trans (Wrote.alloc _ _ _)).trans hW | replace hW0 := (hW0.trans (Wrote.of_ext _ ((Ext.refl _).drew))).trans hW | replace hW0 := (hW0.trans (Wrote.of_ext _ ((Ext.refl _).drew.alloc _))).trans hW | replace hW0 := (hW0.trans (Wrote.of_ext _ ((Ext.refl _).alloc _).drew)).trans hW); (first | replace hB := hB.wrote hW | replace hB := (hB.ext ((Ext.refl _).alloc _)).wrote hW | replace hB := (hB.ext (((Ext.refl _).alloc _).alloc _)).wrote hW | replace hB := (hB.ext ((((Ext.refl _).alloc _).alloc _).alloc _)).wrote hW | replace hB := (hB.ext ((Ext.refl _).drew)).wrote hW | replace hB := (hB.ext ((Ext.refl _).drew.alloc _)).wrote hW | replace hB := (hB.ext ((Ext.refl _).alloc _).drew).wrote hW); clear hS hW; have hS := hS2; clear hS2; (try clear kr kzr kx kzx); have kr : ∀ o, w5.cell? ⟨w.heap.size, o, none⟩ = _ := (fun o => hW0.cell hlr hner); have kzr : ∀ o, w5.frozen? ⟨w.heap.size, o, none⟩ = _ := (fun o => hW0.free hlr hner); have kx : ∀ o, w5.cell? ⟨gX, o, none⟩ = _ := (fun o => hW0.cell hlx hnex); have kzx : ∀ o, w5.frozen? ⟨gX, o, none⟩ = _ := (fun o => hW0.free hlx hnex)) | (go_at_call 73; refine (among_any g n cp _ _ _ _ _ _ a _ (by first | exact hS | exact hS.ext ((Ext.refl _).alloc _) | exact hS.ext (((Ext.refl _).alloc _).alloc _) | exact hS.ext ((((Ext.refl _).alloc _).alloc _).alloc _) | exact hS.ext ((Ext.refl _).drew) | exact hS.ext ((Ext.refl _).drew.alloc _) | exact hS.ext ((Ext.refl _).alloc _).drew) (by first | exact hB | exact hB.ext ((Ext.refl _).alloc _) | exact hB.ext (((Ext.refl _).alloc _).alloc _) | exact hB.ext ((((Ext.refl _).alloc _).alloc _).alloc _) | exact hB.ext ((Ext.refl _).drew) | exact hB.ext ((Ext.refl _).drew.alloc _) | exact hB.ext ((Ext.refl _).alloc _).drew) (by omega) hn (by first | exact lit2 _ _ _ | exact lit3 _ _ _ _ | exact lit4 _ _ _ _ _ | exact lit5 _ _ _ _ _ _ | exact lit8 _ _ _ _ _ _ _ _ _) (by omega) (by have := hS.lt; simp; omega)).mono ?_; rintro e w5 ⟨p, rfl, hS2, hW⟩; (first | replace hW0 := hW0.trans hW | replace hW0 := (hW0.trans (Wrote.alloc _ _ _)).trans hW | replace hW0 := ((hW0.trans (Wrote.alloc _ _ _)).trans (Wrote.alloc _ _ _)).trans hW | replace hW0 := (((hW0.trans (Wrote.alloc _ _ _)).trans (Wrote.alloc _ _ _)).trans (Wrote.alloc _ _ _)).trans hW | replace hW0 := (hW0.trans (Wrote.of_ext _ ((Ext.refl _).drew))).trans hW | replace hW0 := (hW0.trans (Wrote.of_ext _ ((Ext.refl _).drew.alloc _))).trans hW | replace hW0 := (hW0.trans (Wrote.of_ext _ ((Ext.refl _).alloc _).drew)).trans hW); (first | replace hB := hB.wrote hW | replace hB := (hB.ext ((Ext.refl _).alloc _)).wrote hW | replace hB := (hB.ext (((Ext.refl _).alloc _).alloc _)).wrote hW | replace hB := (hB.ext ((((Ext.refl _).alloc _).alloc _).alloc _)).wrote hW | replace hB := (hB.ext ((Ext.refl _).drew)).wrote hW | replace hB := (hB.ext ((Ext.refl _).drew.alloc _)).wrote hW | replace hB := (hB.ext ((Ext.refl _).alloc _).drew).wrote hW); clear hS hW; have hS := hS2; clear hS2; (try clear kr kzr kx kzx); have kr : ∀ o, w5.cell? ⟨w.heap.size, o, none⟩ = _ := (fun o => hW0.cell hlr hner); have kzr : ∀ o, w5.frozen? ⟨w.heap.size, o, none⟩ = _ := (fun o => hW0.free hlr hner); have kx : ∀ o, w5.cell? ⟨gX, o, none⟩ = _ := (fun o => hW0.cell hlx hnex); have kzx : ∀ o, w5.frozen? ⟨gX, o, none⟩ = _ := (fun o => hW0.free hlx hnex)))
  all_goals generalize hU : World.setCell _ _ _ = U9
  all_goals have hW9 : Ext w U9 := by rw [← hU]; (repeat (first | (with_reducible refine Ext.drew ?_) | (with_reducible refine Ext.setCell ?_ ?_ _; rotate_left; focus (first | (simp; done) | (simp; omega) | omega)))); exact Wrote.ext hwV hW0 (fun k hk => by injection hk; omega)
  all_goals have nr0 : U9.cell? ⟨w.heap.size, 0, none⟩ = some (.int .i64 v0) := by rw [← hU]; ((repeat (first | (with_reducible refine cell_drew ?_) | (with_reducible refine cell_same ?_) | (with_reducible refine keep_other ?_ ?_; focus (first | assumption | omega)) | (with_reducible refine cell_off ?_ ?_; focus decide))); (repeat (first | (with_reducible refine some_drew ?_) | (with_reducible refine some_other ?_)))); rw [kr, r0]; rfl
  all_goals have nr1 : U9.cell? ⟨w.heap.size, 1, none⟩ = some (.int .i64 v1) := by rw [← hU]; ((repeat (first | (with_reducible refine cell_drew ?_) | (with_reducible refine cell_same ?_) | (with_reducible refine keep_other ?_ ?_; focus (first | assumption | omega)) | (with_reducible refine cell_off ?_ ?_; focus decide))); (repeat (first | (with_reducible refine some_drew ?_) | (with_reducible refine some_other ?_)))); rw [kr, r1]; rfl
  all_goals have nr2 : U9.cell? ⟨w.heap.size, 2, none⟩ = some (.int .i64 v2) := by rw [← hU]; ((repeat (first | (with_reducible refine cell_drew ?_) | (with_reducible refine cell_same ?_) | (with_reducible refine keep_other ?_ ?_; focus (first | assumption | omega)) | (with_reducible refine cell_off ?_ ?_; focus decide))); (repeat (first | (with_reducible refine some_drew ?_) | (with_reducible refine some_other ?_)))); rw [kr, r2]; rfl
  all_goals have nr3 : U9.cell? ⟨w.heap.size, 3, none⟩ = some (.int .i64 v3) := by rw [← hU]; ((repeat (first | (with_reducible refine cell_drew ?_) | (with_reducible refine cell_same ?_) | (with_reducible refine keep_other ?_ ?_; focus (first | assumption | omega)) | (with_reducible refine cell_off ?_ ?_; focus decide))); (repeat (first | (with_reducible refine some_drew ?_) | (with_reducible refine some_other ?_)))); rw [kr, r3]; rfl
  all_goals have nr4 : U9.cell? ⟨w.heap.size, 4, none⟩ = some (.int .i64 v4) := by rw [← hU]; ((repeat (first | (with_reducible refine cell_drew ?_) | (with_reducible refine cell_same ?_) | (with_reducible refine keep_other ?_ ?_; focus (first | assumption | omega)) | (with_reducible refine cell_off ?_ ?_; focus decide))); (repeat (first | (with_reducible refine some_drew ?_) | (with_reducible refine some_other ?_)))); rw [kr, r4]; rfl
  all_goals have nr5 : U9.cell? ⟨w.heap.size, 5, none⟩ = some (.int .i64 v5) := by rw [← hU]; ((repeat (first | (with_reducible refine cell_drew ?_) | (with_reducible refine cell_same ?_) | (with_reducible refine keep_other ?_ ?_; focus (first | assumption | omega)) | (with_reducible refine cell_off ?_ ?_; focus decide))); (repeat (first | (with_reducible refine some_drew ?_) | (with_reducible refine some_other ?_)))); rw [kr, r5]; rfl
  all_goals clear hU
  all_goals refine bodyPost_ret (v := ?_) ?_ rfl ?_
  all_goals try (simp [results, Try.results48, go_sem, nr0, nr1, nr2, nr3, nr4, nr5]; exact rfl)
  all_goals exact ⟨⟨_, _, _, _, _, _, _, rfl⟩, hW9⟩

set_option maxRecDepth 100000 in
set_option maxHeartbeats 2000000 in
theorem drawFit_any (a : Option Addr) (n cp : Nat) (w : World) (hB0 : RowB w w.heap.size a n) (hn : n ≤ 1048576) :
    Calls Try.prog 49 #[.slice a n cp] w fun e w' => (∃ v0 v1 p, e = .returned (.tuple #[.agg #[.int .i64 v0, .int .i64 v1], .int .i64 p])) ∧ Ext w w' := by
  go_enter Try.func49, Try.ntmps49
  go_upto_region 1 with fail
  generalize hW : World.alloc _ _ = W
  have xW : Ext w W := by rw [← hW]; exact (Ext.refl _).alloc _
  have hlr : w.heap.size < W.heap.size := by rw [← hW]; simp; try omega
  have r0 : W.cell? ⟨w.heap.size, 0, none⟩ = some (.int .i64 0) := by rw [← hW]; simp [go_sem]
  have rz0 : W.frozen? ⟨w.heap.size, 0, none⟩ = false := by rw [← hW]; simp
  have r1 : W.cell? ⟨w.heap.size, 1, none⟩ = some (.int .i64 0) := by rw [← hW]; simp [go_sem]
  have rz1 : W.frozen? ⟨w.heap.size, 1, none⟩ = false := by rw [← hW]; simp
  clear hW
  have hgr := hlr
  go_upto_region 2 with (first | (go_at_call 70; refine (l00From_any a n cp _).mono ?_; rintro e w1 ⟨rfl, hS, x1⟩))
  have hB : RowB w1 W.heap.size a n := hB0.to (xW.trans x1) xW.size
  replace r0 := (x1.cells.1 _ _ hlr).trans r0
  replace rz0 := (x1.cells.2.1 _ _ hlr).trans rz0
  replace r1 := (x1.cells.1 _ _ hlr).trans r1
  replace rz1 := (x1.cells.2.1 _ _ hlr).trans rz1
  replace hlr := Nat.lt_of_lt_of_le hlr x1.size
  have hww : Ext w w1 := xW.trans x1
  clear x1 xW hB0
  generalize W.heap.size = g at *
  have hner : some w.heap.size ≠ some g := fun e => by injection e; omega
  go_upto_region 3 with (first | (go_at_call 83; refine (drawTrains_any g n cp 0 a _ hS hB (by omega) hn).mono ?_; rintro e w2 ⟨⟨v, zs, rfl, hP, hl⟩, hS2, hWc⟩))
  have hgB := hB
  replace hB := hB.wrote hWc
  have hgl := hS.lt
  replace hS := hS2
  clear hS2
  replace r0 := (hWc.cell hlr hner).trans r0
  replace rz0 := (hWc.free hlr hner).trans rz0
  replace r1 := (hWc.cell hlr hner).trans r1
  replace rz1 := (hWc.free hlr hner).trans rz1
  replace hlr := Nat.lt_of_lt_of_le hlr hWc.size
  have hwV := Wrote.ext hww hWc (fun k hk => by injection hk; omega)
  have hg1 : g < w1.heap.size := hgl
  obtain ⟨sa, sc, rfl⟩ := hP.shape
  have hW0 := Wrote.refl (some g) w2
  go_upto_region 4 with (first | (go_at_call 71; refine (pick_any g n cp _ _ a _ (by first | exact hS | exact hS.ext ((Ext.refl _).alloc _) | exact hS.ext (((Ext.refl _).alloc _).alloc _) | exact hS.ext ((((Ext.refl _).alloc _).alloc _).alloc _) | exact hS.ext ((Ext.refl _).drew) | exact hS.ext ((Ext.refl _).drew.alloc _) | exact hS.ext ((Ext.refl _).alloc _).drew) (by first | exact hB | exact hB.ext ((Ext.refl _).alloc _) | exact hB.ext (((Ext.refl _).alloc _).alloc _) | exact hB.ext ((((Ext.refl _).alloc _).alloc _).alloc _) | exact hB.ext ((Ext.refl _).drew) | exact hB.ext ((Ext.refl _).drew.alloc _) | exact hB.ext ((Ext.refl _).alloc _).drew) (by omega) hn).mono ?_; rintro e w5 ⟨p, rfl, hx, hS2, hW⟩; replace hP := hP.src hW hg1; (first | replace hW0 := hW0.trans hW | replace hW0 := (hW0.trans (Wrote.alloc _ _ _)).trans hW | replace hW0 := ((hW0.trans (Wrote.alloc _ _ _)).trans (Wrote.alloc _ _ _)).trans hW | replace hW0 := (((hW0.trans (Wrote.alloc _ _ _)).trans (Wrote.alloc _ _ _)).trans (Wrote.alloc _ _ _)).trans hW | replace hW0 := (hW0.trans (Wrote.of_ext _ ((Ext.refl _).drew))).trans hW | replace hW0 := (hW0.trans (Wrote.of_ext _ ((Ext.refl _).drew.alloc _))).trans hW | replace hW0 := (hW0.trans (Wrote.of_ext _ ((Ext.refl _).alloc _).drew)).trans hW); (first | replace hB := hB.wrote hW | replace hB := (hB.ext ((Ext.refl _).alloc _)).wrote hW | replace hB := (hB.ext (((Ext.refl _).alloc _).alloc _)).wrote hW | replace hB := (hB.ext ((((Ext.refl _).alloc _).alloc _).alloc _)).wrote hW | replace hB := (hB.ext ((Ext.refl _).drew)).wrote hW | replace hB := (hB.ext ((Ext.refl _).drew.alloc _)).wrote hW | replace hB := (hB.ext ((Ext.refl _).alloc _).drew).wrote hW); clear hS hW; have hS := hS2; clear hS2; (try clear kr kzr); have kr : ∀ o, w5.cell? ⟨w.heap.size, o, none⟩ = _ := (fun o => hW0.cell hlr hner); have kzr : ∀ o, w5.frozen? ⟨w.heap.size, o, none⟩ = _ := (fun o => hW0.free hlr hner)))
  generalize hV : World.alloc _ _ = V
  have xV : Ext w5 V := by rw [← hV]; exact (Ext.refl _).alloc _
  have hX : Wrote (some g) w2 V := hW0.trans (Wrote.of_ext _ xV)
  have hs1 := hW0.size
  have hxr : w5.heap.size ≠ w.heap.size := by omega
  have hrx : w.heap.size ≠ w5.heap.size := by omega
  have hwx : w.heap.size ≤ w5.heap.size := by omega
  have hWV := hWc.trans hX
  have hw1x : w1.heap.size ≤ w5.heap.size := by have := hWc.size; omega
  have hlx : w5.heap.size < V.heap.size := by rw [← hV]; simp
  have hx : ∃ y0 y1, V.cell? ⟨w5.heap.size, 0, none⟩ = some (.int .i64 y0) ∧ V.cell? ⟨w5.heap.size, 1, none⟩ = some (.int .i64 y1) := ⟨_, _, by rw [← hV]; simp [go_sem]; rfl, by rw [← hV]; simp [go_sem]; rfl⟩
  obtain ⟨y0, y1, x0, x1⟩ := hx
  have xz0 : V.frozen? ⟨w5.heap.size, 0, none⟩ = false := by rw [← hV]; simp
  have xz1 : V.frozen? ⟨w5.heap.size, 1, none⟩ = false := by rw [← hV]; simp
  have hnex : some w5.heap.size ≠ some g := fun e => by injection e; have := hS.lt; omega
  (try clear kr kzr)
  replace r0 := (hX.cell hlr hner).trans r0
  replace rz0 := (hX.free hlr hner).trans rz0
  replace r1 := (hX.cell hlr hner).trans r1
  replace rz1 := (hX.free hlr hner).trans rz1
  replace hlr := Nat.lt_of_lt_of_le hlr hX.size
  replace hB := hB.ext xV
  replace hS := hS.ext xV
  replace hP := hP.ext xV
  replace hwV := Wrote.ext hwV hX (fun k hk => by injection hk; omega)
  have hPx := fun k h => (hP.lt k h)
  clear hV xV hX hW0 hs1
  generalize w5.heap.size = gX at *
  by_cases hz : zs.length = 0
  · have t1 : ¬ (0 : Int) < (zs.length : Int) := by omega
    have hW0 := Wrote.refl (some g) V
    clear hz
    go_wp2_with (first | (go_at_call 71; refine (pick_any g n cp _ _ a _ (by first | exact hS | exact hS.ext ((Ext.refl _).alloc _) | exact hS.ext (((Ext.refl _).alloc _).alloc _) | exact hS.ext ((((Ext.refl _).alloc _).alloc _).alloc _) | exact hS.ext ((Ext.refl _).drew) | exact hS.ext ((Ext.refl _).drew.alloc _) | exact hS.ext ((Ext.refl _).alloc _).drew) (by first | exact hB | exact hB.ext ((Ext.refl _).alloc _) | exact hB.ext (((Ext.refl _).alloc _).alloc _) | exact hB.ext ((((Ext.refl _).alloc _).alloc _).alloc _) | exact hB.ext ((Ext.refl _).drew) | exact hB.ext ((Ext.refl _).drew.alloc _) | exact hB.ext ((Ext.refl _).alloc _).drew) (by omega) hn).mono ?_; rintro e w5 ⟨p, rfl, hx, hS2, hW⟩; (first | replace hW0 := hW0.trans hW | replace hW0 := (hW0.trans (Wrote.alloc _ _ _)).trans hW | replace hW0 := ((hW0.trans (Wrote.alloc _ _ _)).trans (Wrote.alloc _ _ _)).trans hW | replace hW0 := (((hW0.trans (Wrote.alloc _ _ _)).trans (Wrote.alloc _ _ _)).trans (Wrote.alloc _ _ _)).trans hW | replace hW0 := (hW0.trans (Wrote.of_ext _ ((Ext.refl _).drew))).trans hW | replace hW0 := (hW0.trans (Wrote.of_ext _ ((Ext.refl _).drew.alloc _))).trans hW | replace hW0 := (hW0.trans (Wrote.of_ext _ ((Ext.refl _).alloc _).drew)).trans hW); (first | replace hB := hB.wrote hW | replace hB := (hB.ext ((Ext.refl _).alloc _)).wrote hW | replace hB := (hB.ext (((Ext.refl _).alloc _).alloc _)).wrote hW | replace hB := (hB.ext ((((Ext.refl _).alloc _).alloc _).alloc _)).wrote hW | replace hB := (hB.ext ((Ext.refl _).drew)).wrote hW | replace hB := (hB.ext ((Ext.refl _).drew.alloc _)).wrote hW | replace hB := (hB.ext ((Ext.refl _).alloc _).drew).wrote hW); clear hS hW; have hS := hS2; clear hS2; (try clear kr kzr kx kzx); have kr : ∀ o, w5.cell? ⟨w.heap.size, o, none⟩ = _ := (fun o => hW0.cell hlr hner); have kzr : ∀ o, w5.frozen? ⟨w.heap.size, o, none⟩ = _ := (fun o => hW0.free hlr hner); have kx : ∀ o, w5.cell? ⟨gX, o, none⟩ = _ := (fun o => hW0.cell hlx hnex); have kzx : ∀ o, w5.frozen? ⟨gX, o, none⟩ = _ := (fun o => hW0.free hlx hnex)) | (go_at_call 72; refine (one_any g n cp _ _ a _ (by first | exact hS | exact hS.ext ((Ext.refl _).alloc _) | exact hS.ext (((Ext.refl _).alloc _).alloc _) | exact hS.ext ((((Ext.refl _).alloc _).alloc _).alloc _) | exact hS.ext ((Ext.refl _).drew) | exact hS.ext ((Ext.refl _).drew.alloc _) | exact hS.ext ((Ext.refl _).alloc _).drew) (by first | exact hB | exact hB.ext ((Ext.refl _).alloc _) | exact hB.ext (((Ext.refl _).alloc _).alloc _) | exact hB.ext ((((Ext.refl _).alloc _).alloc _).alloc _) | exact hB.ext ((Ext.refl _).drew) | exact hB.ext ((Ext.refl _).drew.alloc _) | exact hB.ext ((Ext.refl _).alloc _).drew) (by omega) hn).mono ?_; rintro e w5 ⟨c, rfl, hS2, hW⟩; (first | replace hW0 := hW0.trans hW | replace hW0 := (hW0.trans (Wrote.alloc _ _ _)).trans hW | replace hW0 := ((hW0.trans (Wrote.alloc _ _ _)).trans (Wrote.alloc _ _ _)).trans hW | replace hW0 := (((hW0.trans (Wrote.alloc _ _ _)).trans (Wrote.alloc _ _ _)).trans (Wrote.alloc _ _ _)).trans hW | replace hW0 := (hW0.trans (Wrote.of_ext _ ((Ext.refl _).drew))).trans hW | replace hW0 := (hW0.trans (Wrote.of_ext _ ((Ext.refl _).drew.alloc _))).trans hW | replace hW0 := (hW0.trans (Wrote.of_ext _ ((Ext.refl _).alloc _).drew)).trans hW); (first | replace hB := hB.wrote hW | replace hB := (hB.ext ((Ext.refl _).alloc _)).wrote hW | replace hB := (hB.ext (((Ext.refl _).alloc _).alloc _)).wrote hW | replace hB := (hB.ext ((((Ext.refl _).alloc _).alloc _).alloc _)).wrote hW | replace hB := (hB.ext ((Ext.refl _).drew)).wrote hW | replace hB := (hB.ext ((Ext.refl _).drew.alloc _)).wrote hW | replace hB := (hB.ext ((Ext.refl _).alloc _).drew).wrote hW); clear hS hW; have hS := hS2; clear hS2; (try clear kr kzr kx kzx); have kr : ∀ o, w5.cell? ⟨w.heap.size, o, none⟩ = _ := (fun o => hW0.cell hlr hner); have kzr : ∀ o, w5.frozen? ⟨w.heap.size, o, none⟩ = _ := (fun o => hW0.free hlr hner); have kx : ∀ o, w5.cell? ⟨gX, o, none⟩ = _ := (fun o => hW0.cell hlx hnex); have kzx : ∀ o, w5.frozen? ⟨gX, o, none⟩ = _ := (fun o => hW0.free hlx hnex)) | (go_at_call 73; refine (among_any g n cp _ _ _ _ _ _ a _ (by first | exact hS | exact hS.ext ((Ext.refl _).alloc _) | exact hS.ext (((Ext.refl _).alloc _).alloc _) | exact hS.ext ((((Ext.refl _).alloc _).alloc _).alloc _) | exact hS.ext ((Ext.refl _).drew) | exact hS.ext ((Ext.refl _).drew.alloc _) | exact hS.ext ((Ext.refl _).alloc _).drew) (by first | exact hB | exact hB.ext ((Ext.refl _).alloc _) | exact hB.ext (((Ext.refl _).alloc _).alloc _) | exact hB.ext ((((Ext.refl _).alloc _).alloc _).alloc _) | exact hB.ext ((Ext.refl _).drew) | exact hB.ext ((Ext.refl _).drew.alloc _) | exact hB.ext ((Ext.refl _).alloc _).drew) (by omega) hn (by first | exact lit2 _ _ _ | exact lit3 _ _ _ _ | exact lit4 _ _ _ _ _ | exact lit5 _ _ _ _ _ _ | exact lit8 _ _ _ _ _ _ _ _ _) (by omega) (by have := hS.lt; simp; omega)).mono ?_; rintro e w5 ⟨p, rfl, hS2, hW⟩; (first | replace hW0 := hW0.trans hW | replace hW0 := (hW0.trans (Wrote.alloc _ _ _)).trans hW | replace hW0 := ((hW0.trans (Wrote.alloc _ _ _)).trans (Wrote.alloc _ _ _)).trans hW | replace hW0 := (((hW0.trans (Wrote.alloc _ _ _)).trans (Wrote.alloc _ _ _)).trans (Wrote.alloc _ _ _)).trans hW | replace hW0 := (hW0.trans (Wrote.of_ext _ ((Ext.refl _).drew))).trans hW | replace hW0 := (hW0.trans (Wrote.of_ext _ ((Ext.refl _).drew.alloc _))).trans hW | replace hW0 := (hW0.trans (Wrote.of_ext _ ((Ext.refl _).alloc _).drew)).trans hW); (first | replace hB := hB.wrote hW | replace hB := (hB.ext ((Ext.refl _).alloc _)).wrote hW | replace hB := (hB.ext (((Ext.refl _).alloc _).alloc _)).wrote hW | replace hB := (hB.ext ((((Ext.refl _).alloc _).alloc _).alloc _)).wrote hW | replace hB := (hB.ext ((Ext.refl _).drew)).wrote hW | replace hB := (hB.ext ((Ext.refl _).drew.alloc _)).wrote hW | replace hB := (hB.ext ((Ext.refl _).alloc _).drew).wrote hW); clear hS hW; have hS := hS2; clear hS2; (try clear kr kzr kx kzx); have kr : ∀ o, w5.cell? ⟨w.heap.size, o, none⟩ = _ := (fun o => hW0.cell hlr hner); have kzr : ∀ o, w5.frozen? ⟨w.heap.size, o, none⟩ = _ := (fun o => hW0.free hlr hner); have kx : ∀ o, w5.cell? ⟨gX, o, none⟩ = _ := (fun o => hW0.cell hlx hnex); have kzx : ∀ o, w5.frozen? ⟨gX, o, none⟩ = _ := (fun o => hW0.free hlx hnex)))
    all_goals generalize hU : World.setCell _ _ _ = U9
    all_goals have hW9 : Ext w U9 := by rw [← hU]; (repeat (first | (with_reducible refine Ext.drew ?_) | (with_reducible refine Ext.setCell ?_ ?_ _; rotate_left; focus (first | (simp; done) | (simp; omega) | omega)))); exact Wrote.ext hwV hW0 (fun k hk => by injection hk; omega)
    all_goals have nr0 : U9.cell? ⟨w.heap.size, 0, none⟩ = some (.int .i64 y0) := by rw [← hU]; ((repeat (first | (with_reducible refine cell_drew ?_) | (with_reducible refine cell_same ?_) | (with_reducible refine keep_other ?_ ?_; focus (first | assumption | omega)) | (with_reducible refine cell_off ?_ ?_; focus decide))); (repeat (first | (with_reducible refine some_drew ?_) | (with_reducible refine some_other ?_)))); rw [kr, r0]; rfl
    all_goals have nr1 : U9.cell? ⟨w.heap.size, 1, none⟩ = some (.int .i64 y1) := by rw [← hU]; ((repeat (first | (with_reducible refine cell_drew ?_) | (with_reducible refine cell_same ?_) | (with_reducible refine keep_other ?_ ?_; focus (first | assumption | omega)) | (with_reducible refine cell_off ?_ ?_; focus decide))); (repeat (first | (with_reducible refine some_drew ?_) | (with_reducible refine some_other ?_)))); rw [kr, r1]; rfl
    all_goals clear hU
    all_goals refine bodyPost_ret (v := ?_) ?_ rfl ?_
    all_goals try (simp [results, Try.results49, go_sem, nr0, nr1]; exact rfl)
    all_goals exact ⟨⟨_, _, _, rfl⟩, hW9⟩
  · have t1 : (0 : Int) < (zs.length : Int) := by omega
    have t2 : 0 < zs.length := by omega
    obtain ⟨gp, d0, d1, rfl, hgp, _, _, c0, c1, _, _⟩ := hP.nth (j := 0) t2
    simp only [Nat.zero_mul, Nat.zero_add] at c0 c1
    go_upto_region 6 with fail
    generalize hU : World.setCell _ _ _ = U
    have hxg : gX ≠ g := fun e => hnex (by rw [e])
    skip
    have nx0 : U.cell? ⟨gX, 0, none⟩ = some (.int .i64 d0) := by rw [← hU]; simp [go_sem, x0, x1]
    have nx1 : U.cell? ⟨gX, 1, none⟩ = some (.int .i64 d1) := by rw [← hU]; simp [go_sem, x0, x1]
    have nr0 : U.cell? ⟨w.heap.size, 0, none⟩ = some (.int .i64 0) := by rw [← hU]; exact keep_other hxr (keep_other hxr r0)
    have nr1 : U.cell? ⟨w.heap.size, 1, none⟩ = some (.int .i64 0) := by rw [← hU]; exact keep_other hxr (keep_other hxr r1)
    have nxz0 : U.frozen? ⟨gX, 0, none⟩ = false := by rw [← hU]; simp [xz0]
    have nxz1 : U.frozen? ⟨gX, 1, none⟩ = false := by rw [← hU]; simp [xz1]
    have nrz0 : U.frozen? ⟨w.heap.size, 0, none⟩ = false := by rw [← hU]; simp [rz0]
    have nrz1 : U.frozen? ⟨w.heap.size, 1, none⟩ = false := by rw [← hU]; simp [rz1]
    replace hS : Src U g a n cp (0 + 40 + 2 + 2) := by rw [← hU]; exact (hS.other hxg _).other hxg _
    replace hwV : Ext w U := by rw [← hU]; exact (hwV.setCell hwx _).setCell hwx _
    replace hlx : gX < U.heap.size := World.block_lt_of_cell? _ _ nx0
    replace hlr : w.heap.size < U.heap.size := World.block_lt_of_cell? _ _ nr0
    replace hB : RowB U g a n := by rw [← hU]; exact hgB.wrote ((hWV.fresh hw1x _).fresh hw1x _)
    clear hU x0 x1 r0 r1 xz0 xz1 rz0 rz1 c0 c1 hP hPx
    have x0 := nx0
    have x1 := nx1
    have r0 := nr0
    have r1 := nr1
    have xz0 := nxz0
    have xz1 := nxz1
    have rz0 := nrz0
    have rz1 := nrz1
    clear nx0 nx1 nr0 nr1 nxz0 nxz1 nrz0 nrz1
    have hW0 := Wrote.refl (some g) U
    go_wp2_with (first | (go_at_call 71; refine (pick_any g n cp _ _ a _ (by first | exact hS | exact hS.ext ((Ext.refl _).alloc _) | exact hS.ext (((Ext.refl _).alloc _).alloc _) | exact hS.ext ((((Ext.refl _).alloc _).alloc _).alloc _) | exact hS.ext ((Ext.refl _).drew) | exact hS.ext ((Ext.refl _).drew.alloc _) | exact hS.ext ((Ext.refl _).alloc _).drew) (by first | exact hB | exact hB.ext ((Ext.refl _).alloc _) | exact hB.ext (((Ext.refl _).alloc _).alloc _) | exact hB.ext ((((Ext.refl _).alloc _).alloc _).alloc _) | exact hB.ext ((Ext.refl _).drew) | exact hB.ext ((Ext.refl _).drew.alloc _) | exact hB.ext ((Ext.refl _).alloc _).drew) (by omega) hn).mono ?_; rintro e w5 ⟨p, rfl, hx, hS2, hW⟩; (first | replace hW0 := hW0.trans hW | replace hW0 := (hW0.trans (Wrote.alloc _ _ _)).trans hW | replace hW0 := ((hW0.trans (Wrote.alloc _ _ _)).trans (Wrote.alloc _ _ _)).trans hW | replace hW0 := (((hW0.trans (Wrote.alloc _ _ _)).trans (Wrote.alloc _ _ _)).trans (Wrote.alloc _ _ _)).trans hW | replace hW0 := (hW0.trans (Wrote.of_ext _ ((Ext.refl _).drew))).trans hW | replace hW0 := (hW0.trans (Wrote.of_ext _ ((Ext.refl _).drew.alloc _))).trans hW | replace hW0 := (hW0.trans (Wrote.of_ext _ ((Ext.refl _).alloc _).drew)).trans hW); (first | replace hB := hB.wrote hW | replace hB := (hB.ext ((Ext.refl _).alloc _)).wrote hW | replace hB := (hB.ext (((Ext.refl _).alloc _).alloc _)).wrote hW | replace hB := (hB.ext ((((Ext.refl _).alloc _).alloc _).alloc _)).wrote hW | replace hB := (hB.ext ((Ext.refl _).drew)).wrote hW | replace hB := (hB.ext ((Ext.refl _).drew.alloc _)).wrote hW | replace hB := (hB.ext ((Ext.refl _).alloc _).drew).wrote hW); clear hS hW; have hS := hS2; clear hS2; (try clear kr kzr kx kzx); have kr : ∀ o, w5.cell? ⟨w.heap.size, o, none⟩ = _ := (fun o => hW0.cell hlr hner); have kzr : ∀ o, w5.frozen? ⟨w.heap.size, o, none⟩ = _ := (fun o => hW0.free hlr hner); have kx : ∀ o, w5.cell? ⟨gX, o, none⟩ = _ := (fun o => hW0.cell hlx hnex); have kzx : ∀ o, w5.frozen? ⟨gX, o, none⟩ = _ := (fun o => hW0.free hlx hnex)) | (go_at_call 72; refine (one_any g n cp _ _ a _ (by first | exact hS | exact hS.ext ((Ext.refl _).alloc _) | exact hS.ext (((Ext.refl _).alloc _).alloc _) | exact hS.ext ((((Ext.refl _).alloc _).alloc _).alloc _) | exact hS.ext ((Ext.refl _).drew) | exact hS.ext ((Ext.refl _).drew.alloc _) | exact hS.ext ((Ext.refl _).alloc _).drew) (by first | exact hB | exact hB.ext ((Ext.refl _).alloc _) | exact hB.ext (((Ext.refl _).alloc _).alloc _) | exact hB.ext ((((Ext.refl _).alloc _).alloc _).alloc _) | exact hB.ext ((Ext.refl _).drew) | exact hB.ext ((Ext.refl _).drew.alloc _) | exact hB.ext ((Ext.refl _).alloc _).drew) (by omega) hn).mono ?_; rintro e w5 ⟨c, rfl, hS2, hW⟩; (first | replace hW0 := hW0.trans hW | replace hW0 := (hW0.trans (Wrote.alloc _ _ _)).trans hW | replace hW0 := ((hW0.trans (Wrote.alloc _ _ _)).trans (Wrote.alloc _ _ _)).trans hW | replace hW0 := (((hW0.trans (Wrote.alloc _ _ _)).trans (Wrote.alloc _ _ _)).trans (Wrote.alloc _ _ _)).trans hW | replace hW0 := (hW0.trans (Wrote.of_ext _ ((Ext.refl _).drew))).trans hW | replace hW0 := (hW0.trans (Wrote.of_ext _ ((Ext.refl _).drew.alloc _))).trans hW | replace hW0 := (hW0.trans (Wrote.of_ext _ ((Ext.refl _).alloc _).drew)).trans hW); (first | replace hB := hB.wrote hW | replace hB := (hB.ext ((Ext.refl _).alloc _)).wrote hW | replace hB := (hB.ext (((Ext.refl _).alloc _).alloc _)).wrote hW | replace hB := (hB.ext ((((Ext.refl _).alloc _).alloc _).alloc _)).wrote hW | replace hB := (hB.ext ((Ext.refl _).drew)).wrote hW | replace hB := (hB.ext ((Ext.refl _).drew.alloc _)).wrote hW | replace hB := (hB.ext ((Ext.refl _).alloc _).drew).wrote hW); clear hS hW; have hS := hS2; clear hS2; (try clear kr kzr kx kzx); have kr : ∀ o, w5.cell? ⟨w.heap.size, o, none⟩ = _ := (fun o => hW0.cell hlr hner); have kzr : ∀ o, w5.frozen? ⟨w.heap.size, o, none⟩ = _ := (fun o => hW0.free hlr hner); have kx : ∀ o, w5.cell? ⟨gX, o, none⟩ = _ := (fun o => hW0.cell hlx hnex); have kzx : ∀ o, w5.frozen? ⟨gX, o, none⟩ = _ := (fun o => hW0.free hlx hnex)) | (go_at_call 73; refine (among_any g n cp _ _ _ _ _ _ a _ (by first | exact hS | exact hS.ext ((Ext.refl _).alloc _) | exact hS.ext (((Ext.refl _).alloc _).alloc _) | exact hS.ext ((((Ext.refl _).alloc _).alloc _).alloc _) | exact hS.ext ((Ext.refl _).drew) | exact hS.ext ((Ext.refl _).drew.alloc _) | exact hS.ext ((Ext.refl _).alloc _).drew) (by first | exact hB | exact hB.ext ((Ext.refl _).alloc _) | exact hB.ext (((Ext.refl _).alloc _).alloc _) | exact hB.ext ((((Ext.refl _).alloc _).alloc _).alloc _) | exact hB.ext ((Ext.refl _).drew) | exact hB.ext ((Ext.refl _).drew.alloc _) | exact hB.ext ((Ext.refl _).alloc _).drew) (by omega) hn (by first | exact lit2 _ _ _ | exact lit3 _ _ _ _ | exact lit4 _ _ _ _ _ | exact lit5 _ _ _ _ _ _ | exact lit8 _ _ _ _ _ _ _ _ _) (by omega) (by have := hS.lt; simp; omega)).mono ?_; rintro e w5 ⟨p, rfl, hS2, hW⟩; (first | replace hW0 := hW0.trans hW | replace hW0 := (hW0.trans (Wrote.alloc _ _ _)).trans hW | replace hW0 := ((hW0.trans (Wrote.alloc _ _ _)).trans (Wrote.alloc _ _ _)).trans hW | replace hW0 := (((hW0.trans (Wrote.alloc _ _ _)).trans (Wrote.alloc _ _ _)).trans (Wrote.alloc _ _ _)).trans hW | replace hW0 := (hW0.trans (Wrote.of_ext _ ((Ext.refl _).drew))).trans hW | replace hW0 := (hW0.trans (Wrote.of_ext _ ((Ext.refl _).drew.alloc _))).trans hW | replace hW0 := (hW0.trans (Wrote.of_ext _ ((Ext.refl _).alloc _).drew)).trans hW); (first | replace hB := hB.wrote hW | replace hB := (hB.ext ((Ext.refl _).alloc _)).wrote hW | replace hB := (hB.ext (((Ext.refl _).alloc _).alloc _)).wrote hW | replace hB := (hB.ext ((((Ext.refl _).alloc _).alloc _).alloc _)).wrote hW | replace hB := (hB.ext ((Ext.refl _).drew)).wrote hW | replace hB := (hB.ext ((Ext.refl _).drew.alloc _)).wrote hW | replace hB := (hB.ext ((Ext.refl _).alloc _).drew).wrote hW); clear hS hW; have hS := hS2; clear hS2; (try clear kr kzr kx kzx); have kr : ∀ o, w5.cell? ⟨w.heap.size, o, none⟩ = _ := (fun o => hW0.cell hlr hner); have kzr : ∀ o, w5.frozen? ⟨w.heap.size, o, none⟩ = _ := (fun o => hW0.free hlr hner); have kx : ∀ o, w5.cell? ⟨gX, o, none⟩ = _ := (fun o => hW0.cell hlx hnex); have kzx : ∀ o, w5.frozen? ⟨gX, o, none⟩ = _ := (fun o => hW0.free hlx hnex)))
    all_goals generalize hU : World.setCell _ _ _ = U9
    all_goals have hW9 : Ext w U9 := by rw [← hU]; (repeat (first | (with_reducible refine Ext.drew ?_) | (with_reducible refine Ext.setCell ?_ ?_ _; rotate_left; focus (first | (simp; done) | (simp; omega) | omega)))); exact Wrote.ext hwV hW0 (fun k hk => by injection hk; omega)
    all_goals have nr0 : U9.cell? ⟨w.heap.size, 0, none⟩ = some (.int .i64 d0) := by rw [← hU]; ((repeat (first | (with_reducible refine cell_drew ?_) | (with_reducible refine cell_same ?_) | (with_reducible refine keep_other ?_ ?_; focus (first | assumption | omega)) | (with_reducible refine cell_off ?_ ?_; focus decide))); (repeat (first | (with_reducible refine some_drew ?_) | (with_reducible refine some_other ?_)))); rw [kr, r0]; rfl
    all_goals have nr1 : U9.cell? ⟨w.heap.size, 1, none⟩ = some (.int .i64 d1) := by rw [← hU]; ((repeat (first | (with_reducible refine cell_drew ?_) | (with_reducible refine cell_same ?_) | (with_reducible refine keep_other ?_ ?_; focus (first | assumption | omega)) | (with_reducible refine cell_off ?_ ?_; focus decide))); (repeat (first | (with_reducible refine some_drew ?_) | (with_reducible refine some_other ?_)))); rw [kr, r1]; rfl
    all_goals clear hU
    all_goals refine bodyPost_ret (v := ?_) ?_ rfl ?_
    all_goals try (simp [results, Try.results49, go_sem, nr0, nr1]; exact rfl)
    all_goals exact ⟨⟨_, _, _, rfl⟩, hW9⟩
end Go.Proofs.Ytbhhiodbhlhpmaa
