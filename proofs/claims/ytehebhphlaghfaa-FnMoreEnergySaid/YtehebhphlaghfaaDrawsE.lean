/-
  What the laws on escapements draw from a code.
-/
import Derived.Test.YtehebhphlaghfaaDrawE
namespace Go.Proofs.Ytehebhphlaghfaa
open Go.RowKit
set_option linter.unusedSimpArgs false
set_option linter.unusedVariables false

theorem RowB.to {w w' : World} {g g' n : Nat} {a : Option Addr} (h : RowB w g a n) (x : Ext w w') (hg : w.heap.size ≤ g') : RowB w' g' a n := by
  rcases h with h | ⟨b, off, ha, hb, hne, hc⟩
  · exact .inl h
  · exact .inr ⟨b, off, ha, Nat.lt_of_lt_of_le hb x.size, by omega, fun j hj => by obtain ⟨v, hv, h⟩ := hc j hj; exact ⟨v, hv, (x.cells.1 _ _ hb).trans h⟩⟩
theorem keep_other {w : World} {b o b' o' : Nat} {u v : Value} (hne : b' ≠ b) (h : w.cell? ⟨b, o, none⟩ = some v) : (w.setCell ⟨b', o', none⟩ u).cell? ⟨b, o, none⟩ = some v :=
  (World.cell?_setCell_other w _ _ u (by intro e; apply hne; injection e)).trans h

set_option maxRecDepth 100000 in
set_option maxHeartbeats 8000000 in
theorem drawSteady_any (a : Option Addr) (n cp : Nat) (w : World) (hB0 : RowB w w.heap.size a n) (hn : n ≤ 1048576) :
    Calls Try.prog 25 #[.slice a n cp] w fun e w' => (∃ v0 v1 v2 v3 v4 p, e = .returned (.tuple #[.agg #[.int .i64 v0, .int .i64 v1, .int .i64 v2, .int .i64 v3, .int .i64 v4], .int .i64 p])) ∧ Ext w w' := by
  go_enter Try.func25, Try.ntmps25
  go_upto_region 1 with fail
  generalize hW : World.alloc _ _ = W
  have xW : Ext w W := by rw [← hW]; exact (Ext.refl _).alloc _
  have hlR : w.heap.size < W.heap.size := by rw [← hW]; simp; try omega
  have r0 : W.cell? ⟨w.heap.size, 0, none⟩ = some (.int .i64 0) := by rw [← hW]; simp [go_sem]
  have y0 : W.frozen? ⟨w.heap.size, 0, none⟩ = false := by rw [← hW]; simp
  have r1 : W.cell? ⟨w.heap.size, 1, none⟩ = some (.int .i64 0) := by rw [← hW]; simp [go_sem]
  have y1 : W.frozen? ⟨w.heap.size, 1, none⟩ = false := by rw [← hW]; simp
  have r2 : W.cell? ⟨w.heap.size, 2, none⟩ = some (.int .i64 0) := by rw [← hW]; simp [go_sem]
  have y2 : W.frozen? ⟨w.heap.size, 2, none⟩ = false := by rw [← hW]; simp
  have r3 : W.cell? ⟨w.heap.size, 3, none⟩ = some (.int .i64 0) := by rw [← hW]; simp [go_sem]
  have y3 : W.frozen? ⟨w.heap.size, 3, none⟩ = false := by rw [← hW]; simp
  have r4 : W.cell? ⟨w.heap.size, 4, none⟩ = some (.int .i64 0) := by rw [← hW]; simp [go_sem]
  have y4 : W.frozen? ⟨w.heap.size, 4, none⟩ = false := by rw [← hW]; simp
  clear hW
  go_upto_region 2 with (go_at_call 61; refine (l00From_any a n cp _).mono ?_; rintro e w1 ⟨rfl, hS, x1⟩)
  have hB : RowB w1 W.heap.size a n := hB0.to (xW.trans x1) (by have := xW.size; omega)
  replace r0 := (x1.cells.1 _ _ hlR).trans r0
  replace r1 := (x1.cells.1 _ _ hlR).trans r1
  replace r2 := (x1.cells.1 _ _ hlR).trans r2
  replace r3 := (x1.cells.1 _ _ hlR).trans r3
  replace r4 := (x1.cells.1 _ _ hlR).trans r4
  replace y0 := (x1.cells.2.1 _ _ hlR).trans y0
  replace y1 := (x1.cells.2.1 _ _ hlR).trans y1
  replace y2 := (x1.cells.2.1 _ _ hlR).trans y2
  replace y3 := (x1.cells.2.1 _ _ hlR).trans y3
  replace y4 := (x1.cells.2.1 _ _ hlR).trans y4
  have hgR : w.heap.size < W.heap.size := hlR
  have hxs := x1.size
  replace hlR : w.heap.size < w1.heap.size := by omega
  have hww : Ext w w1 := xW.trans x1
  clear x1 xW hB0
  generalize W.heap.size = g at *
  have hneR : some w.heap.size ≠ some g := fun e => by injection e; omega
  go_upto_region 3 with (go_at_call 62; refine (drawBent_any g n cp 0 a _ hS hB (by omega) hn).mono ?_; rintro e w2 ⟨⟨v0, v1, v2, v3, v4, rfl⟩, hS2, hWc⟩)
  generalize hV : World.alloc _ _ = V
  have xV : Ext w2 V := by rw [← hV]; exact (Ext.refl _).alloc _
  have hlE : w2.heap.size < V.heap.size := by rw [← hV]; simp
  have e0 : V.cell? ⟨w2.heap.size, 0, none⟩ = some (.int .i64 v0) := by rw [← hV]; simp [go_sem]
  have z0 : V.frozen? ⟨w2.heap.size, 0, none⟩ = false := by rw [← hV]; simp
  have e1 : V.cell? ⟨w2.heap.size, 1, none⟩ = some (.int .i64 v1) := by rw [← hV]; simp [go_sem]
  have z1 : V.frozen? ⟨w2.heap.size, 1, none⟩ = false := by rw [← hV]; simp
  have e2 : V.cell? ⟨w2.heap.size, 2, none⟩ = some (.int .i64 v2) := by rw [← hV]; simp [go_sem]
  have z2 : V.frozen? ⟨w2.heap.size, 2, none⟩ = false := by rw [← hV]; simp
  have e3 : V.cell? ⟨w2.heap.size, 3, none⟩ = some (.int .i64 v3) := by rw [← hV]; simp [go_sem]
  have z3 : V.frozen? ⟨w2.heap.size, 3, none⟩ = false := by rw [← hV]; simp
  have e4 : V.cell? ⟨w2.heap.size, 4, none⟩ = some (.int .i64 v4) := by rw [← hV]; simp [go_sem]
  have z4 : V.frozen? ⟨w2.heap.size, 4, none⟩ = false := by rw [← hV]; simp
  have hs2 := hWc.size
  have hWV : Wrote (some g) w1 V := hWc.trans (Wrote.of_ext _ xV)
  have hneE : some w2.heap.size ≠ some g := fun e => by injection e; have := hS2.lt; omega
  have hER : w2.heap.size ≠ w.heap.size := by omega
  have hRE : w.heap.size ≠ w2.heap.size := by omega
  replace r0 := (hWV.cell hlR hneR).trans r0
  replace r1 := (hWV.cell hlR hneR).trans r1
  replace r2 := (hWV.cell hlR hneR).trans r2
  replace r3 := (hWV.cell hlR hneR).trans r3
  replace r4 := (hWV.cell hlR hneR).trans r4
  replace y0 := (hWV.free hlR hneR).trans y0
  replace y1 := (hWV.free hlR hneR).trans y1
  replace y2 := (hWV.free hlR hneR).trans y2
  replace y3 := (hWV.free hlR hneR).trans y3
  replace y4 := (hWV.free hlR hneR).trans y4
  replace hB := hB.wrote hWV
  replace hS := hS2.ext xV
  have hwV := Wrote.ext hww hWV (fun k hk => by injection hk; omega)
  have hsV := hWV.size
  replace hlR : w.heap.size < V.heap.size := by omega
  clear hV hWc hWV hS2 xV hww hxs hs2 hsV
  generalize w2.heap.size = gE at *
  have hW0 := Wrote.refl (some g) V
  go_region_held3 (fun w' => w'.cell? ⟨gE, 0, none⟩ = some (.int .i64 v0) ∧ w'.cell? ⟨gE, 1, none⟩ = some (.int .i64 v1) ∧ w'.cell? ⟨gE, 2, none⟩ = some (.int .i64 v2) ∧ w'.cell? ⟨gE, 3, none⟩ = some (.int .i64 v3) ∧ w'.cell? ⟨gE, 4, none⟩ = some (.int .i64 v4))
    (first | (refine ⟨?_, ?_, ?_, ?_, ?_⟩ <;> with_reducible assumption) | (refine ⟨?_, ?_, ?_, ?_, ?_⟩ <;> with_reducible (refine (kE _).trans ?_ <;> assumption)) | (refine ⟨?_, ?_, ?_, ?_, ?_⟩ <;> with_reducible ((repeat (refine keep_other (by assumption) ?_)); refine (kE _).trans ?_; assumption)) | go_keep)
    (first | (go_at_call 63; refine (drawTorque_any g n cp 24 a _ (by first | exact hS | exact hS.ext ((Ext.refl _).drew) | exact hS.ext ((Ext.refl _).drewN _)) (by first | exact hB | exact hB.ext ((Ext.refl _).drew) | exact hB.ext ((Ext.refl _).drewN _)) (by omega) hn).mono ?_; rintro e w9 ⟨p, rfl, hS2, hWc⟩; (first | replace hW0 := hW0.trans hWc | replace hW0 := (hW0.trans (Wrote.of_ext _ ((Ext.refl _).drew))).trans hWc | replace hW0 := (hW0.trans (Wrote.of_ext _ ((Ext.refl _).drewN _))).trans hWc); have kE : ∀ o, w9.cell? ⟨gE, o, none⟩ = _ := fun o => hW0.cell hlE hneE; have kR : ∀ o, w9.cell? ⟨w.heap.size, o, none⟩ = _ := fun o => hW0.cell hlR hneR; have kr : ∀ o, w9.frozen? ⟨w.heap.size, o, none⟩ = _ := fun o => hW0.free hlR hneR))
  all_goals go_wp2_with fail
  all_goals refine bodyPost_ret (v := ?_) ?_ rfl ?_
  all_goals try (simp [results, Try.results25, go_sem, *]; exact rfl)
  all_goals exact ⟨⟨_, _, _, _, _, _, rfl⟩, by (repeat (refine Ext.setCell ?_ (by simp; try omega) _)); exact Wrote.ext hwV hW0 (fun k hk => by injection hk; omega)⟩

set_option maxRecDepth 100000 in
set_option maxHeartbeats 8000000 in
theorem drawSwing_any (a : Option Addr) (n cp : Nat) (w : World) (hB0 : RowB w w.heap.size a n) (hn : n ≤ 1048576) :
    Calls Try.prog 81 #[.slice a n cp] w fun e w' => (∃ v0 v1 v2 v3 v4 q0 s0 s1, e = .returned (.tuple #[.agg #[.int .i64 v0, .int .i64 v1, .int .i64 v2, .int .i64 v3, .int .i64 v4], .int .i64 q0, .agg #[.int .i64 s0, .int .i64 s1]])) ∧ Ext w w' := by
  go_enter Try.func81, Try.ntmps81
  go_upto_region 1 with fail
  generalize hW : World.alloc (World.alloc _ _) _ = W
  have xW : Ext w W := by rw [← hW]; exact ((Ext.refl _).alloc _).alloc _
  have hlR : w.heap.size < W.heap.size := by rw [← hW]; simp; try omega
  have r0 : W.cell? ⟨w.heap.size, 0, none⟩ = some (.int .i64 0) := by rw [← hW]; simp [go_sem]
  have y0 : W.frozen? ⟨w.heap.size, 0, none⟩ = false := by rw [← hW]; simp
  have r1 : W.cell? ⟨w.heap.size, 1, none⟩ = some (.int .i64 0) := by rw [← hW]; simp [go_sem]
  have y1 : W.frozen? ⟨w.heap.size, 1, none⟩ = false := by rw [← hW]; simp
  have r2 : W.cell? ⟨w.heap.size, 2, none⟩ = some (.int .i64 0) := by rw [← hW]; simp [go_sem]
  have y2 : W.frozen? ⟨w.heap.size, 2, none⟩ = false := by rw [← hW]; simp
  have r3 : W.cell? ⟨w.heap.size, 3, none⟩ = some (.int .i64 0) := by rw [← hW]; simp [go_sem]
  have y3 : W.frozen? ⟨w.heap.size, 3, none⟩ = false := by rw [← hW]; simp
  have r4 : W.cell? ⟨w.heap.size, 4, none⟩ = some (.int .i64 0) := by rw [← hW]; simp [go_sem]
  have y4 : W.frozen? ⟨w.heap.size, 4, none⟩ = false := by rw [← hW]; simp
  have hlB : w.heap.size + 1 < W.heap.size := by rw [← hW]; simp
  have b0 : W.cell? ⟨w.heap.size + 1, 0, none⟩ = some (.int .i64 0) := by rw [← hW]; simp [go_sem]
  have d0 : W.frozen? ⟨w.heap.size + 1, 0, none⟩ = false := by rw [← hW]; simp
  have b1 : W.cell? ⟨w.heap.size + 1, 1, none⟩ = some (.int .i64 0) := by rw [← hW]; simp [go_sem]
  have d1 : W.frozen? ⟨w.heap.size + 1, 1, none⟩ = false := by rw [← hW]; simp
  clear hW
  go_upto_region 2 with (go_at_call 61; refine (l00From_any a n cp _).mono ?_; rintro e w1 ⟨rfl, hS, x1⟩)
  have hB : RowB w1 W.heap.size a n := hB0.to (xW.trans x1) (by have := xW.size; omega)
  replace r0 := (x1.cells.1 _ _ hlR).trans r0
  replace r1 := (x1.cells.1 _ _ hlR).trans r1
  replace r2 := (x1.cells.1 _ _ hlR).trans r2
  replace r3 := (x1.cells.1 _ _ hlR).trans r3
  replace r4 := (x1.cells.1 _ _ hlR).trans r4
  replace y0 := (x1.cells.2.1 _ _ hlR).trans y0
  replace y1 := (x1.cells.2.1 _ _ hlR).trans y1
  replace y2 := (x1.cells.2.1 _ _ hlR).trans y2
  replace y3 := (x1.cells.2.1 _ _ hlR).trans y3
  replace y4 := (x1.cells.2.1 _ _ hlR).trans y4
  replace b0 := (x1.cells.1 _ _ hlB).trans b0
  replace b1 := (x1.cells.1 _ _ hlB).trans b1
  replace d0 := (x1.cells.2.1 _ _ hlB).trans d0
  replace d1 := (x1.cells.2.1 _ _ hlB).trans d1
  have hgR : w.heap.size < W.heap.size := hlR
  have hgB : w.heap.size + 1 < W.heap.size := hlB
  have hxs := x1.size
  replace hlR : w.heap.size < w1.heap.size := by omega
  replace hlB : w.heap.size + 1 < w1.heap.size := by omega
  have hww : Ext w w1 := xW.trans x1
  clear x1 xW hB0
  generalize W.heap.size = g at *
  have hneR : some w.heap.size ≠ some g := fun e => by injection e; omega
  have hneB : some (w.heap.size + 1) ≠ some g := fun e => by injection e; omega
  go_upto_region 3 with (go_at_call 62; refine (drawBent_any g n cp 0 a _ hS hB (by omega) hn).mono ?_; rintro e w2 ⟨⟨v0, v1, v2, v3, v4, rfl⟩, hS2, hWc⟩)
  generalize hV : World.alloc _ _ = V
  have xV : Ext w2 V := by rw [← hV]; exact (Ext.refl _).alloc _
  have hlE : w2.heap.size < V.heap.size := by rw [← hV]; simp
  have e0 : V.cell? ⟨w2.heap.size, 0, none⟩ = some (.int .i64 v0) := by rw [← hV]; simp [go_sem]
  have z0 : V.frozen? ⟨w2.heap.size, 0, none⟩ = false := by rw [← hV]; simp
  have e1 : V.cell? ⟨w2.heap.size, 1, none⟩ = some (.int .i64 v1) := by rw [← hV]; simp [go_sem]
  have z1 : V.frozen? ⟨w2.heap.size, 1, none⟩ = false := by rw [← hV]; simp
  have e2 : V.cell? ⟨w2.heap.size, 2, none⟩ = some (.int .i64 v2) := by rw [← hV]; simp [go_sem]
  have z2 : V.frozen? ⟨w2.heap.size, 2, none⟩ = false := by rw [← hV]; simp
  have e3 : V.cell? ⟨w2.heap.size, 3, none⟩ = some (.int .i64 v3) := by rw [← hV]; simp [go_sem]
  have z3 : V.frozen? ⟨w2.heap.size, 3, none⟩ = false := by rw [← hV]; simp
  have e4 : V.cell? ⟨w2.heap.size, 4, none⟩ = some (.int .i64 v4) := by rw [← hV]; simp [go_sem]
  have z4 : V.frozen? ⟨w2.heap.size, 4, none⟩ = false := by rw [← hV]; simp
  have hs2 := hWc.size
  have hWV : Wrote (some g) w1 V := hWc.trans (Wrote.of_ext _ xV)
  have hneE : some w2.heap.size ≠ some g := fun e => by injection e; have := hS2.lt; omega
  have hER : w2.heap.size ≠ w.heap.size := by omega
  have hRE : w.heap.size ≠ w2.heap.size := by omega
  have hEB : w2.heap.size ≠ w.heap.size + 1 := by omega
  have hBE : w.heap.size + 1 ≠ w2.heap.size := by omega
  replace r0 := (hWV.cell hlR hneR).trans r0
  replace r1 := (hWV.cell hlR hneR).trans r1
  replace r2 := (hWV.cell hlR hneR).trans r2
  replace r3 := (hWV.cell hlR hneR).trans r3
  replace r4 := (hWV.cell hlR hneR).trans r4
  replace y0 := (hWV.free hlR hneR).trans y0
  replace y1 := (hWV.free hlR hneR).trans y1
  replace y2 := (hWV.free hlR hneR).trans y2
  replace y3 := (hWV.free hlR hneR).trans y3
  replace y4 := (hWV.free hlR hneR).trans y4
  replace b0 := (hWV.cell hlB hneB).trans b0
  replace b1 := (hWV.cell hlB hneB).trans b1
  replace d0 := (hWV.free hlB hneB).trans d0
  replace d1 := (hWV.free hlB hneB).trans d1
  replace hB := hB.wrote hWV
  replace hS := hS2.ext xV
  have hwV := Wrote.ext hww hWV (fun k hk => by injection hk; omega)
  have hsV := hWV.size
  replace hlR : w.heap.size < V.heap.size := by omega
  replace hlB : w.heap.size + 1 < V.heap.size := by omega
  clear hV hWc hWV hS2 xV hww hxs hs2 hsV
  generalize w2.heap.size = gE at *
  have hW0 := Wrote.refl (some g) V
  go_upto_region 4 with (go_at_call 63; refine (drawTorque_any g n cp 24 a _ hS hB (by omega) hn).mono ?_; rintro e w3 ⟨q0, rfl, hS2, hWc⟩; replace hB := hB.wrote hWc; replace hW0 := hW0.trans hWc; clear hS hWc; have hS := hS2; clear hS2)
  have hsV := hW0.size
  replace r0 := (hW0.cell hlR hneR).trans r0
  replace r1 := (hW0.cell hlR hneR).trans r1
  replace r2 := (hW0.cell hlR hneR).trans r2
  replace r3 := (hW0.cell hlR hneR).trans r3
  replace r4 := (hW0.cell hlR hneR).trans r4
  replace y0 := (hW0.free hlR hneR).trans y0
  replace y1 := (hW0.free hlR hneR).trans y1
  replace y2 := (hW0.free hlR hneR).trans y2
  replace y3 := (hW0.free hlR hneR).trans y3
  replace y4 := (hW0.free hlR hneR).trans y4
  replace b0 := (hW0.cell hlB hneB).trans b0
  replace b1 := (hW0.cell hlB hneB).trans b1
  replace d0 := (hW0.free hlB hneB).trans d0
  replace d1 := (hW0.free hlB hneB).trans d1
  replace e0 := (hW0.cell hlE hneE).trans e0
  replace e1 := (hW0.cell hlE hneE).trans e1
  replace e2 := (hW0.cell hlE hneE).trans e2
  replace e3 := (hW0.cell hlE hneE).trans e3
  replace e4 := (hW0.cell hlE hneE).trans e4
  replace z0 := (hW0.free hlE hneE).trans z0
  replace z1 := (hW0.free hlE hneE).trans z1
  replace z2 := (hW0.free hlE hneE).trans z2
  replace z3 := (hW0.free hlE hneE).trans z3
  replace z4 := (hW0.free hlE hneE).trans z4
  replace hlR := Nat.lt_of_lt_of_le hlR hsV
  replace hlB := Nat.lt_of_lt_of_le hlB hsV
  replace hlE := Nat.lt_of_lt_of_le hlE hsV
  replace hwV := Wrote.ext hwV hW0 (fun k hk => by injection hk; omega)
  clear hW0
  have hW0 := Wrote.refl (some g) w3
  go_region_held3 (fun w' => w'.cell? ⟨gE, 0, none⟩ = some (.int .i64 v0) ∧ w'.cell? ⟨gE, 1, none⟩ = some (.int .i64 v1) ∧ w'.cell? ⟨gE, 2, none⟩ = some (.int .i64 v2) ∧ w'.cell? ⟨gE, 3, none⟩ = some (.int .i64 v3) ∧ w'.cell? ⟨gE, 4, none⟩ = some (.int .i64 v4))
    (first | (refine ⟨?_, ?_, ?_, ?_, ?_⟩ <;> with_reducible assumption) | (refine ⟨?_, ?_, ?_, ?_, ?_⟩ <;> with_reducible (refine (kE _).trans ?_ <;> assumption)) | (refine ⟨?_, ?_, ?_, ?_, ?_⟩ <;> with_reducible ((repeat (refine keep_other (by assumption) ?_)); refine (kE _).trans ?_; assumption)) | go_keep)
    (first | (go_at_call 72; refine (drawBeat_any v0 v1 v2 v3 v4 g n cp 28 a _ (by first | exact hS | exact hS.ext ((Ext.refl _).drew) | exact hS.ext ((Ext.refl _).drewN _)) (by first | exact hB | exact hB.ext ((Ext.refl _).drew) | exact hB.ext ((Ext.refl _).drewN _)) (by omega) hn).mono ?_; rintro e w9 ⟨⟨s0, s1, rfl⟩, hS2, hWc⟩; (first | replace hW0 := hW0.trans hWc | replace hW0 := (hW0.trans (Wrote.of_ext _ ((Ext.refl _).drew))).trans hWc | replace hW0 := (hW0.trans (Wrote.of_ext _ ((Ext.refl _).drewN _))).trans hWc); have kE : ∀ o, w9.cell? ⟨gE, o, none⟩ = _ := fun o => hW0.cell hlE hneE; have kR : ∀ o, w9.cell? ⟨w.heap.size, o, none⟩ = _ := fun o => hW0.cell hlR hneR; have kr : ∀ o, w9.frozen? ⟨w.heap.size, o, none⟩ = _ := fun o => hW0.free hlR hneR; have kB : ∀ o, w9.cell? ⟨w.heap.size + 1, o, none⟩ = _ := fun o => hW0.cell hlB hneB; have kb : ∀ o, w9.frozen? ⟨w.heap.size + 1, o, none⟩ = _ := fun o => hW0.free hlB hneB))
  all_goals go_wp2_with fail
  all_goals refine bodyPost_ret (v := ?_) ?_ rfl ?_
  all_goals try (simp [results, Try.results81, go_sem, *]; exact rfl)
  all_goals exact ⟨⟨_, _, _, _, _, _, _, _, rfl⟩, by (repeat (refine Ext.setCell ?_ (by simp; try omega) _)); exact Wrote.ext hwV hW0 (fun k hk => by injection hk; omega)⟩

set_option maxRecDepth 100000 in
set_option maxHeartbeats 8000000 in
theorem drawSwingMany_any (a : Option Addr) (n cp : Nat) (w : World) (hB0 : RowB w w.heap.size a n) (hn : n ≤ 1048576) :
    Calls Try.prog 55 #[.slice a n cp] w fun e w' => (∃ v0 v1 v2 v3 v4 q0 q1 s0 s1, e = .returned (.tuple #[.agg #[.int .i64 v0, .int .i64 v1, .int .i64 v2, .int .i64 v3, .int .i64 v4], .int .i64 q0, .int .i64 q1, .agg #[.int .i64 s0, .int .i64 s1]])) ∧ Ext w w' := by
  go_enter Try.func55, Try.ntmps55
  go_upto_region 1 with fail
  generalize hW : World.alloc (World.alloc _ _) _ = W
  have xW : Ext w W := by rw [← hW]; exact ((Ext.refl _).alloc _).alloc _
  have hlR : w.heap.size < W.heap.size := by rw [← hW]; simp; try omega
  have r0 : W.cell? ⟨w.heap.size, 0, none⟩ = some (.int .i64 0) := by rw [← hW]; simp [go_sem]
  have y0 : W.frozen? ⟨w.heap.size, 0, none⟩ = false := by rw [← hW]; simp
  have r1 : W.cell? ⟨w.heap.size, 1, none⟩ = some (.int .i64 0) := by rw [← hW]; simp [go_sem]
  have y1 : W.frozen? ⟨w.heap.size, 1, none⟩ = false := by rw [← hW]; simp
  have r2 : W.cell? ⟨w.heap.size, 2, none⟩ = some (.int .i64 0) := by rw [← hW]; simp [go_sem]
  have y2 : W.frozen? ⟨w.heap.size, 2, none⟩ = false := by rw [← hW]; simp
  have r3 : W.cell? ⟨w.heap.size, 3, none⟩ = some (.int .i64 0) := by rw [← hW]; simp [go_sem]
  have y3 : W.frozen? ⟨w.heap.size, 3, none⟩ = false := by rw [← hW]; simp
  have r4 : W.cell? ⟨w.heap.size, 4, none⟩ = some (.int .i64 0) := by rw [← hW]; simp [go_sem]
  have y4 : W.frozen? ⟨w.heap.size, 4, none⟩ = false := by rw [← hW]; simp
  have hlB : w.heap.size + 1 < W.heap.size := by rw [← hW]; simp
  have b0 : W.cell? ⟨w.heap.size + 1, 0, none⟩ = some (.int .i64 0) := by rw [← hW]; simp [go_sem]
  have d0 : W.frozen? ⟨w.heap.size + 1, 0, none⟩ = false := by rw [← hW]; simp
  have b1 : W.cell? ⟨w.heap.size + 1, 1, none⟩ = some (.int .i64 0) := by rw [← hW]; simp [go_sem]
  have d1 : W.frozen? ⟨w.heap.size + 1, 1, none⟩ = false := by rw [← hW]; simp
  clear hW
  go_upto_region 2 with (go_at_call 61; refine (l00From_any a n cp _).mono ?_; rintro e w1 ⟨rfl, hS, x1⟩)
  have hB : RowB w1 W.heap.size a n := hB0.to (xW.trans x1) (by have := xW.size; omega)
  replace r0 := (x1.cells.1 _ _ hlR).trans r0
  replace r1 := (x1.cells.1 _ _ hlR).trans r1
  replace r2 := (x1.cells.1 _ _ hlR).trans r2
  replace r3 := (x1.cells.1 _ _ hlR).trans r3
  replace r4 := (x1.cells.1 _ _ hlR).trans r4
  replace y0 := (x1.cells.2.1 _ _ hlR).trans y0
  replace y1 := (x1.cells.2.1 _ _ hlR).trans y1
  replace y2 := (x1.cells.2.1 _ _ hlR).trans y2
  replace y3 := (x1.cells.2.1 _ _ hlR).trans y3
  replace y4 := (x1.cells.2.1 _ _ hlR).trans y4
  replace b0 := (x1.cells.1 _ _ hlB).trans b0
  replace b1 := (x1.cells.1 _ _ hlB).trans b1
  replace d0 := (x1.cells.2.1 _ _ hlB).trans d0
  replace d1 := (x1.cells.2.1 _ _ hlB).trans d1
  have hgR : w.heap.size < W.heap.size := hlR
  have hgB : w.heap.size + 1 < W.heap.size := hlB
  have hxs := x1.size
  replace hlR : w.heap.size < w1.heap.size := by omega
  replace hlB : w.heap.size + 1 < w1.heap.size := by omega
  have hww : Ext w w1 := xW.trans x1
  clear x1 xW hB0
  generalize W.heap.size = g at *
  have hneR : some w.heap.size ≠ some g := fun e => by injection e; omega
  have hneB : some (w.heap.size + 1) ≠ some g := fun e => by injection e; omega
  go_upto_region 3 with (go_at_call 62; refine (drawBent_any g n cp 0 a _ hS hB (by omega) hn).mono ?_; rintro e w2 ⟨⟨v0, v1, v2, v3, v4, rfl⟩, hS2, hWc⟩)
  generalize hV : World.alloc _ _ = V
  have xV : Ext w2 V := by rw [← hV]; exact (Ext.refl _).alloc _
  have hlE : w2.heap.size < V.heap.size := by rw [← hV]; simp
  have e0 : V.cell? ⟨w2.heap.size, 0, none⟩ = some (.int .i64 v0) := by rw [← hV]; simp [go_sem]
  have z0 : V.frozen? ⟨w2.heap.size, 0, none⟩ = false := by rw [← hV]; simp
  have e1 : V.cell? ⟨w2.heap.size, 1, none⟩ = some (.int .i64 v1) := by rw [← hV]; simp [go_sem]
  have z1 : V.frozen? ⟨w2.heap.size, 1, none⟩ = false := by rw [← hV]; simp
  have e2 : V.cell? ⟨w2.heap.size, 2, none⟩ = some (.int .i64 v2) := by rw [← hV]; simp [go_sem]
  have z2 : V.frozen? ⟨w2.heap.size, 2, none⟩ = false := by rw [← hV]; simp
  have e3 : V.cell? ⟨w2.heap.size, 3, none⟩ = some (.int .i64 v3) := by rw [← hV]; simp [go_sem]
  have z3 : V.frozen? ⟨w2.heap.size, 3, none⟩ = false := by rw [← hV]; simp
  have e4 : V.cell? ⟨w2.heap.size, 4, none⟩ = some (.int .i64 v4) := by rw [← hV]; simp [go_sem]
  have z4 : V.frozen? ⟨w2.heap.size, 4, none⟩ = false := by rw [← hV]; simp
  have hs2 := hWc.size
  have hWV : Wrote (some g) w1 V := hWc.trans (Wrote.of_ext _ xV)
  have hneE : some w2.heap.size ≠ some g := fun e => by injection e; have := hS2.lt; omega
  have hER : w2.heap.size ≠ w.heap.size := by omega
  have hRE : w.heap.size ≠ w2.heap.size := by omega
  have hEB : w2.heap.size ≠ w.heap.size + 1 := by omega
  have hBE : w.heap.size + 1 ≠ w2.heap.size := by omega
  replace r0 := (hWV.cell hlR hneR).trans r0
  replace r1 := (hWV.cell hlR hneR).trans r1
  replace r2 := (hWV.cell hlR hneR).trans r2
  replace r3 := (hWV.cell hlR hneR).trans r3
  replace r4 := (hWV.cell hlR hneR).trans r4
  replace y0 := (hWV.free hlR hneR).trans y0
  replace y1 := (hWV.free hlR hneR).trans y1
  replace y2 := (hWV.free hlR hneR).trans y2
  replace y3 := (hWV.free hlR hneR).trans y3
  replace y4 := (hWV.free hlR hneR).trans y4
  replace b0 := (hWV.cell hlB hneB).trans b0
  replace b1 := (hWV.cell hlB hneB).trans b1
  replace d0 := (hWV.free hlB hneB).trans d0
  replace d1 := (hWV.free hlB hneB).trans d1
  replace hB := hB.wrote hWV
  replace hS := hS2.ext xV
  have hwV := Wrote.ext hww hWV (fun k hk => by injection hk; omega)
  have hsV := hWV.size
  replace hlR : w.heap.size < V.heap.size := by omega
  replace hlB : w.heap.size + 1 < V.heap.size := by omega
  clear hV hWc hWV hS2 xV hww hxs hs2 hsV
  generalize w2.heap.size = gE at *
  have hW0 := Wrote.refl (some g) V
  go_upto_region 4 with (go_at_call 63; refine (drawTorque_any g n cp 24 a _ hS hB (by omega) hn).mono ?_; rintro e w3 ⟨q0, rfl, hS2, hWc⟩; replace hB := hB.wrote hWc; replace hW0 := hW0.trans hWc; clear hS hWc; have hS := hS2; clear hS2)
  go_upto_region 5 with (go_at_call 82; refine (drawCount_any g n cp 28 a _ hS hB (by omega) hn).mono ?_; rintro e w4 ⟨q1, rfl, hS2, hWc⟩; replace hB := hB.wrote hWc; replace hW0 := hW0.trans hWc; clear hS hWc; have hS := hS2; clear hS2)
  have hsV := hW0.size
  replace r0 := (hW0.cell hlR hneR).trans r0
  replace r1 := (hW0.cell hlR hneR).trans r1
  replace r2 := (hW0.cell hlR hneR).trans r2
  replace r3 := (hW0.cell hlR hneR).trans r3
  replace r4 := (hW0.cell hlR hneR).trans r4
  replace y0 := (hW0.free hlR hneR).trans y0
  replace y1 := (hW0.free hlR hneR).trans y1
  replace y2 := (hW0.free hlR hneR).trans y2
  replace y3 := (hW0.free hlR hneR).trans y3
  replace y4 := (hW0.free hlR hneR).trans y4
  replace b0 := (hW0.cell hlB hneB).trans b0
  replace b1 := (hW0.cell hlB hneB).trans b1
  replace d0 := (hW0.free hlB hneB).trans d0
  replace d1 := (hW0.free hlB hneB).trans d1
  replace e0 := (hW0.cell hlE hneE).trans e0
  replace e1 := (hW0.cell hlE hneE).trans e1
  replace e2 := (hW0.cell hlE hneE).trans e2
  replace e3 := (hW0.cell hlE hneE).trans e3
  replace e4 := (hW0.cell hlE hneE).trans e4
  replace z0 := (hW0.free hlE hneE).trans z0
  replace z1 := (hW0.free hlE hneE).trans z1
  replace z2 := (hW0.free hlE hneE).trans z2
  replace z3 := (hW0.free hlE hneE).trans z3
  replace z4 := (hW0.free hlE hneE).trans z4
  replace hlR := Nat.lt_of_lt_of_le hlR hsV
  replace hlB := Nat.lt_of_lt_of_le hlB hsV
  replace hlE := Nat.lt_of_lt_of_le hlE hsV
  replace hwV := Wrote.ext hwV hW0 (fun k hk => by injection hk; omega)
  clear hW0
  have hW0 := Wrote.refl (some g) w4
  go_region_held3 (fun w' => w'.cell? ⟨gE, 0, none⟩ = some (.int .i64 v0) ∧ w'.cell? ⟨gE, 1, none⟩ = some (.int .i64 v1) ∧ w'.cell? ⟨gE, 2, none⟩ = some (.int .i64 v2) ∧ w'.cell? ⟨gE, 3, none⟩ = some (.int .i64 v3) ∧ w'.cell? ⟨gE, 4, none⟩ = some (.int .i64 v4))
    (first | (refine ⟨?_, ?_, ?_, ?_, ?_⟩ <;> with_reducible assumption) | (refine ⟨?_, ?_, ?_, ?_, ?_⟩ <;> with_reducible (refine (kE _).trans ?_ <;> assumption)) | (refine ⟨?_, ?_, ?_, ?_, ?_⟩ <;> with_reducible ((repeat (refine keep_other (by assumption) ?_)); refine (kE _).trans ?_; assumption)) | go_keep)
    (first | (go_at_call 72; refine (drawBeat_any v0 v1 v2 v3 v4 g n cp 32 a _ (by first | exact hS | exact hS.ext ((Ext.refl _).drew) | exact hS.ext ((Ext.refl _).drewN _)) (by first | exact hB | exact hB.ext ((Ext.refl _).drew) | exact hB.ext ((Ext.refl _).drewN _)) (by omega) hn).mono ?_; rintro e w9 ⟨⟨s0, s1, rfl⟩, hS2, hWc⟩; (first | replace hW0 := hW0.trans hWc | replace hW0 := (hW0.trans (Wrote.of_ext _ ((Ext.refl _).drew))).trans hWc | replace hW0 := (hW0.trans (Wrote.of_ext _ ((Ext.refl _).drewN _))).trans hWc); have kE : ∀ o, w9.cell? ⟨gE, o, none⟩ = _ := fun o => hW0.cell hlE hneE; have kR : ∀ o, w9.cell? ⟨w.heap.size, o, none⟩ = _ := fun o => hW0.cell hlR hneR; have kr : ∀ o, w9.frozen? ⟨w.heap.size, o, none⟩ = _ := fun o => hW0.free hlR hneR; have kB : ∀ o, w9.cell? ⟨w.heap.size + 1, o, none⟩ = _ := fun o => hW0.cell hlB hneB; have kb : ∀ o, w9.frozen? ⟨w.heap.size + 1, o, none⟩ = _ := fun o => hW0.free hlB hneB))
  all_goals go_wp2_with fail
  all_goals refine bodyPost_ret (v := ?_) ?_ rfl ?_
  all_goals try (simp [results, Try.results55, go_sem, *]; exact rfl)
  all_goals exact ⟨⟨_, _, _, _, _, _, _, _, _, rfl⟩, by (repeat (refine Ext.setCell ?_ (by simp; try omega) _)); exact Wrote.ext hwV hW0 (fun k hk => by injection hk; omega)⟩

set_option maxRecDepth 100000 in
set_option maxHeartbeats 8000000 in
theorem drawLeastTorque_any (a : Option Addr) (n cp : Nat) (w : World) (hB0 : RowB w w.heap.size a n) (hn : n ≤ 1048576) :
    Calls Try.prog 53 #[.slice a n cp] w fun e w' => (∃ v0 v1 v2 v3 v4 q0 s0 s1, e = .returned (.tuple #[.agg #[.int .i64 v0, .int .i64 v1, .int .i64 v2, .int .i64 v3, .int .i64 v4], .int .i64 q0, .agg #[.int .i64 s0, .int .i64 s1]])) ∧ Ext w w' := by
  go_enter Try.func53, Try.ntmps53
  go_upto_region 1 with fail
  generalize hW : World.alloc (World.alloc _ _) _ = W
  have xW : Ext w W := by rw [← hW]; exact ((Ext.refl _).alloc _).alloc _
  have hlR : w.heap.size < W.heap.size := by rw [← hW]; simp; try omega
  have r0 : W.cell? ⟨w.heap.size, 0, none⟩ = some (.int .i64 0) := by rw [← hW]; simp [go_sem]
  have y0 : W.frozen? ⟨w.heap.size, 0, none⟩ = false := by rw [← hW]; simp
  have r1 : W.cell? ⟨w.heap.size, 1, none⟩ = some (.int .i64 0) := by rw [← hW]; simp [go_sem]
  have y1 : W.frozen? ⟨w.heap.size, 1, none⟩ = false := by rw [← hW]; simp
  have r2 : W.cell? ⟨w.heap.size, 2, none⟩ = some (.int .i64 0) := by rw [← hW]; simp [go_sem]
  have y2 : W.frozen? ⟨w.heap.size, 2, none⟩ = false := by rw [← hW]; simp
  have r3 : W.cell? ⟨w.heap.size, 3, none⟩ = some (.int .i64 0) := by rw [← hW]; simp [go_sem]
  have y3 : W.frozen? ⟨w.heap.size, 3, none⟩ = false := by rw [← hW]; simp
  have r4 : W.cell? ⟨w.heap.size, 4, none⟩ = some (.int .i64 0) := by rw [← hW]; simp [go_sem]
  have y4 : W.frozen? ⟨w.heap.size, 4, none⟩ = false := by rw [← hW]; simp
  have hlB : w.heap.size + 1 < W.heap.size := by rw [← hW]; simp
  have b0 : W.cell? ⟨w.heap.size + 1, 0, none⟩ = some (.int .i64 0) := by rw [← hW]; simp [go_sem]
  have d0 : W.frozen? ⟨w.heap.size + 1, 0, none⟩ = false := by rw [← hW]; simp
  have b1 : W.cell? ⟨w.heap.size + 1, 1, none⟩ = some (.int .i64 0) := by rw [← hW]; simp [go_sem]
  have d1 : W.frozen? ⟨w.heap.size + 1, 1, none⟩ = false := by rw [← hW]; simp
  clear hW
  go_upto_region 2 with (go_at_call 61; refine (l00From_any a n cp _).mono ?_; rintro e w1 ⟨rfl, hS, x1⟩)
  have hB : RowB w1 W.heap.size a n := hB0.to (xW.trans x1) (by have := xW.size; omega)
  replace r0 := (x1.cells.1 _ _ hlR).trans r0
  replace r1 := (x1.cells.1 _ _ hlR).trans r1
  replace r2 := (x1.cells.1 _ _ hlR).trans r2
  replace r3 := (x1.cells.1 _ _ hlR).trans r3
  replace r4 := (x1.cells.1 _ _ hlR).trans r4
  replace y0 := (x1.cells.2.1 _ _ hlR).trans y0
  replace y1 := (x1.cells.2.1 _ _ hlR).trans y1
  replace y2 := (x1.cells.2.1 _ _ hlR).trans y2
  replace y3 := (x1.cells.2.1 _ _ hlR).trans y3
  replace y4 := (x1.cells.2.1 _ _ hlR).trans y4
  replace b0 := (x1.cells.1 _ _ hlB).trans b0
  replace b1 := (x1.cells.1 _ _ hlB).trans b1
  replace d0 := (x1.cells.2.1 _ _ hlB).trans d0
  replace d1 := (x1.cells.2.1 _ _ hlB).trans d1
  have hgR : w.heap.size < W.heap.size := hlR
  have hgB : w.heap.size + 1 < W.heap.size := hlB
  have hxs := x1.size
  replace hlR : w.heap.size < w1.heap.size := by omega
  replace hlB : w.heap.size + 1 < w1.heap.size := by omega
  have hww : Ext w w1 := xW.trans x1
  clear x1 xW hB0
  generalize W.heap.size = g at *
  have hneR : some w.heap.size ≠ some g := fun e => by injection e; omega
  have hneB : some (w.heap.size + 1) ≠ some g := fun e => by injection e; omega
  go_upto_region 3 with (go_at_call 62; refine (drawBent_any g n cp 0 a _ hS hB (by omega) hn).mono ?_; rintro e w2 ⟨⟨v0, v1, v2, v3, v4, rfl⟩, hS2, hWc⟩)
  generalize hV : World.alloc _ _ = V
  have xV : Ext w2 V := by rw [← hV]; exact (Ext.refl _).alloc _
  have hlE : w2.heap.size < V.heap.size := by rw [← hV]; simp
  have e0 : V.cell? ⟨w2.heap.size, 0, none⟩ = some (.int .i64 v0) := by rw [← hV]; simp [go_sem]
  have z0 : V.frozen? ⟨w2.heap.size, 0, none⟩ = false := by rw [← hV]; simp
  have e1 : V.cell? ⟨w2.heap.size, 1, none⟩ = some (.int .i64 v1) := by rw [← hV]; simp [go_sem]
  have z1 : V.frozen? ⟨w2.heap.size, 1, none⟩ = false := by rw [← hV]; simp
  have e2 : V.cell? ⟨w2.heap.size, 2, none⟩ = some (.int .i64 v2) := by rw [← hV]; simp [go_sem]
  have z2 : V.frozen? ⟨w2.heap.size, 2, none⟩ = false := by rw [← hV]; simp
  have e3 : V.cell? ⟨w2.heap.size, 3, none⟩ = some (.int .i64 v3) := by rw [← hV]; simp [go_sem]
  have z3 : V.frozen? ⟨w2.heap.size, 3, none⟩ = false := by rw [← hV]; simp
  have e4 : V.cell? ⟨w2.heap.size, 4, none⟩ = some (.int .i64 v4) := by rw [← hV]; simp [go_sem]
  have z4 : V.frozen? ⟨w2.heap.size, 4, none⟩ = false := by rw [← hV]; simp
  have hs2 := hWc.size
  have hWV : Wrote (some g) w1 V := hWc.trans (Wrote.of_ext _ xV)
  have hneE : some w2.heap.size ≠ some g := fun e => by injection e; have := hS2.lt; omega
  have hER : w2.heap.size ≠ w.heap.size := by omega
  have hRE : w.heap.size ≠ w2.heap.size := by omega
  have hEB : w2.heap.size ≠ w.heap.size + 1 := by omega
  have hBE : w.heap.size + 1 ≠ w2.heap.size := by omega
  replace r0 := (hWV.cell hlR hneR).trans r0
  replace r1 := (hWV.cell hlR hneR).trans r1
  replace r2 := (hWV.cell hlR hneR).trans r2
  replace r3 := (hWV.cell hlR hneR).trans r3
  replace r4 := (hWV.cell hlR hneR).trans r4
  replace y0 := (hWV.free hlR hneR).trans y0
  replace y1 := (hWV.free hlR hneR).trans y1
  replace y2 := (hWV.free hlR hneR).trans y2
  replace y3 := (hWV.free hlR hneR).trans y3
  replace y4 := (hWV.free hlR hneR).trans y4
  replace b0 := (hWV.cell hlB hneB).trans b0
  replace b1 := (hWV.cell hlB hneB).trans b1
  replace d0 := (hWV.free hlB hneB).trans d0
  replace d1 := (hWV.free hlB hneB).trans d1
  replace hB := hB.wrote hWV
  replace hS := hS2.ext xV
  have hwV := Wrote.ext hww hWV (fun k hk => by injection hk; omega)
  have hsV := hWV.size
  replace hlR : w.heap.size < V.heap.size := by omega
  replace hlB : w.heap.size + 1 < V.heap.size := by omega
  clear hV hWc hWV hS2 xV hww hxs hs2 hsV
  generalize w2.heap.size = gE at *
  have hW0 := Wrote.refl (some g) V
  go_upto_region 4 with (go_at_call 82; refine (drawCount_any g n cp 24 a _ hS hB (by omega) hn).mono ?_; rintro e w3 ⟨q0, rfl, hS2, hWc⟩; replace hB := hB.wrote hWc; replace hW0 := hW0.trans hWc; clear hS hWc; have hS := hS2; clear hS2)
  have hsV := hW0.size
  replace r0 := (hW0.cell hlR hneR).trans r0
  replace r1 := (hW0.cell hlR hneR).trans r1
  replace r2 := (hW0.cell hlR hneR).trans r2
  replace r3 := (hW0.cell hlR hneR).trans r3
  replace r4 := (hW0.cell hlR hneR).trans r4
  replace y0 := (hW0.free hlR hneR).trans y0
  replace y1 := (hW0.free hlR hneR).trans y1
  replace y2 := (hW0.free hlR hneR).trans y2
  replace y3 := (hW0.free hlR hneR).trans y3
  replace y4 := (hW0.free hlR hneR).trans y4
  replace b0 := (hW0.cell hlB hneB).trans b0
  replace b1 := (hW0.cell hlB hneB).trans b1
  replace d0 := (hW0.free hlB hneB).trans d0
  replace d1 := (hW0.free hlB hneB).trans d1
  replace e0 := (hW0.cell hlE hneE).trans e0
  replace e1 := (hW0.cell hlE hneE).trans e1
  replace e2 := (hW0.cell hlE hneE).trans e2
  replace e3 := (hW0.cell hlE hneE).trans e3
  replace e4 := (hW0.cell hlE hneE).trans e4
  replace z0 := (hW0.free hlE hneE).trans z0
  replace z1 := (hW0.free hlE hneE).trans z1
  replace z2 := (hW0.free hlE hneE).trans z2
  replace z3 := (hW0.free hlE hneE).trans z3
  replace z4 := (hW0.free hlE hneE).trans z4
  replace hlR := Nat.lt_of_lt_of_le hlR hsV
  replace hlB := Nat.lt_of_lt_of_le hlB hsV
  replace hlE := Nat.lt_of_lt_of_le hlE hsV
  replace hwV := Wrote.ext hwV hW0 (fun k hk => by injection hk; omega)
  clear hW0
  have hW0 := Wrote.refl (some g) w3
  go_region_held3 (fun w' => w'.cell? ⟨gE, 0, none⟩ = some (.int .i64 v0) ∧ w'.cell? ⟨gE, 1, none⟩ = some (.int .i64 v1) ∧ w'.cell? ⟨gE, 2, none⟩ = some (.int .i64 v2) ∧ w'.cell? ⟨gE, 3, none⟩ = some (.int .i64 v3) ∧ w'.cell? ⟨gE, 4, none⟩ = some (.int .i64 v4))
    (first | (refine ⟨?_, ?_, ?_, ?_, ?_⟩ <;> with_reducible assumption) | (refine ⟨?_, ?_, ?_, ?_, ?_⟩ <;> with_reducible (refine (kE _).trans ?_ <;> assumption)) | (refine ⟨?_, ?_, ?_, ?_, ?_⟩ <;> with_reducible ((repeat (refine keep_other (by assumption) ?_)); refine (kE _).trans ?_; assumption)) | go_keep)
    (first | (go_at_call 72; refine (drawBeat_any v0 v1 v2 v3 v4 g n cp 28 a _ (by first | exact hS | exact hS.ext ((Ext.refl _).drew) | exact hS.ext ((Ext.refl _).drewN _)) (by first | exact hB | exact hB.ext ((Ext.refl _).drew) | exact hB.ext ((Ext.refl _).drewN _)) (by omega) hn).mono ?_; rintro e w9 ⟨⟨s0, s1, rfl⟩, hS2, hWc⟩; (first | replace hW0 := hW0.trans hWc | replace hW0 := (hW0.trans (Wrote.of_ext _ ((Ext.refl _).drew))).trans hWc | replace hW0 := (hW0.trans (Wrote.of_ext _ ((Ext.refl _).drewN _))).trans hWc); have kE : ∀ o, w9.cell? ⟨gE, o, none⟩ = _ := fun o => hW0.cell hlE hneE; have kR : ∀ o, w9.cell? ⟨w.heap.size, o, none⟩ = _ := fun o => hW0.cell hlR hneR; have kr : ∀ o, w9.frozen? ⟨w.heap.size, o, none⟩ = _ := fun o => hW0.free hlR hneR; have kB : ∀ o, w9.cell? ⟨w.heap.size + 1, o, none⟩ = _ := fun o => hW0.cell hlB hneB; have kb : ∀ o, w9.frozen? ⟨w.heap.size + 1, o, none⟩ = _ := fun o => hW0.free hlB hneB))
  all_goals go_wp2_with fail
  all_goals refine bodyPost_ret (v := ?_) ?_ rfl ?_
  all_goals try (simp [results, Try.results53, go_sem, *]; exact rfl)
  all_goals exact ⟨⟨_, _, _, _, _, _, _, _, rfl⟩, by (repeat (refine Ext.setCell ?_ (by simp; try omega) _)); exact Wrote.ext hwV hW0 (fun k hk => by injection hk; omega)⟩

set_option maxRecDepth 100000 in
set_option maxHeartbeats 8000000 in
theorem drawLeastStart_any (a : Option Addr) (n cp : Nat) (w : World) (hB0 : RowB w w.heap.size a n) (hn : n ≤ 1048576) :
    Calls Try.prog 54 #[.slice a n cp] w fun e w' => (∃ v0 v1 v2 v3 v4 q0 p, e = .returned (.tuple #[.agg #[.int .i64 v0, .int .i64 v1, .int .i64 v2, .int .i64 v3, .int .i64 v4], .int .i64 q0, .int .i64 p])) ∧ Ext w w' := by
  go_enter Try.func54, Try.ntmps54
  go_upto_region 1 with fail
  generalize hW : World.alloc _ _ = W
  have xW : Ext w W := by rw [← hW]; exact (Ext.refl _).alloc _
  have hlR : w.heap.size < W.heap.size := by rw [← hW]; simp; try omega
  have r0 : W.cell? ⟨w.heap.size, 0, none⟩ = some (.int .i64 0) := by rw [← hW]; simp [go_sem]
  have y0 : W.frozen? ⟨w.heap.size, 0, none⟩ = false := by rw [← hW]; simp
  have r1 : W.cell? ⟨w.heap.size, 1, none⟩ = some (.int .i64 0) := by rw [← hW]; simp [go_sem]
  have y1 : W.frozen? ⟨w.heap.size, 1, none⟩ = false := by rw [← hW]; simp
  have r2 : W.cell? ⟨w.heap.size, 2, none⟩ = some (.int .i64 0) := by rw [← hW]; simp [go_sem]
  have y2 : W.frozen? ⟨w.heap.size, 2, none⟩ = false := by rw [← hW]; simp
  have r3 : W.cell? ⟨w.heap.size, 3, none⟩ = some (.int .i64 0) := by rw [← hW]; simp [go_sem]
  have y3 : W.frozen? ⟨w.heap.size, 3, none⟩ = false := by rw [← hW]; simp
  have r4 : W.cell? ⟨w.heap.size, 4, none⟩ = some (.int .i64 0) := by rw [← hW]; simp [go_sem]
  have y4 : W.frozen? ⟨w.heap.size, 4, none⟩ = false := by rw [← hW]; simp
  clear hW
  go_upto_region 2 with (go_at_call 61; refine (l00From_any a n cp _).mono ?_; rintro e w1 ⟨rfl, hS, x1⟩)
  have hB : RowB w1 W.heap.size a n := hB0.to (xW.trans x1) (by have := xW.size; omega)
  replace r0 := (x1.cells.1 _ _ hlR).trans r0
  replace r1 := (x1.cells.1 _ _ hlR).trans r1
  replace r2 := (x1.cells.1 _ _ hlR).trans r2
  replace r3 := (x1.cells.1 _ _ hlR).trans r3
  replace r4 := (x1.cells.1 _ _ hlR).trans r4
  replace y0 := (x1.cells.2.1 _ _ hlR).trans y0
  replace y1 := (x1.cells.2.1 _ _ hlR).trans y1
  replace y2 := (x1.cells.2.1 _ _ hlR).trans y2
  replace y3 := (x1.cells.2.1 _ _ hlR).trans y3
  replace y4 := (x1.cells.2.1 _ _ hlR).trans y4
  have hgR : w.heap.size < W.heap.size := hlR
  have hxs := x1.size
  replace hlR : w.heap.size < w1.heap.size := by omega
  have hww : Ext w w1 := xW.trans x1
  clear x1 xW hB0
  generalize W.heap.size = g at *
  have hneR : some w.heap.size ≠ some g := fun e => by injection e; omega
  go_upto_region 3 with (go_at_call 62; refine (drawBent_any g n cp 0 a _ hS hB (by omega) hn).mono ?_; rintro e w2 ⟨⟨v0, v1, v2, v3, v4, rfl⟩, hS2, hWc⟩)
  generalize hV : World.alloc _ _ = V
  have xV : Ext w2 V := by rw [← hV]; exact (Ext.refl _).alloc _
  have hlE : w2.heap.size < V.heap.size := by rw [← hV]; simp
  have e0 : V.cell? ⟨w2.heap.size, 0, none⟩ = some (.int .i64 v0) := by rw [← hV]; simp [go_sem]
  have z0 : V.frozen? ⟨w2.heap.size, 0, none⟩ = false := by rw [← hV]; simp
  have e1 : V.cell? ⟨w2.heap.size, 1, none⟩ = some (.int .i64 v1) := by rw [← hV]; simp [go_sem]
  have z1 : V.frozen? ⟨w2.heap.size, 1, none⟩ = false := by rw [← hV]; simp
  have e2 : V.cell? ⟨w2.heap.size, 2, none⟩ = some (.int .i64 v2) := by rw [← hV]; simp [go_sem]
  have z2 : V.frozen? ⟨w2.heap.size, 2, none⟩ = false := by rw [← hV]; simp
  have e3 : V.cell? ⟨w2.heap.size, 3, none⟩ = some (.int .i64 v3) := by rw [← hV]; simp [go_sem]
  have z3 : V.frozen? ⟨w2.heap.size, 3, none⟩ = false := by rw [← hV]; simp
  have e4 : V.cell? ⟨w2.heap.size, 4, none⟩ = some (.int .i64 v4) := by rw [← hV]; simp [go_sem]
  have z4 : V.frozen? ⟨w2.heap.size, 4, none⟩ = false := by rw [← hV]; simp
  have hs2 := hWc.size
  have hWV : Wrote (some g) w1 V := hWc.trans (Wrote.of_ext _ xV)
  have hneE : some w2.heap.size ≠ some g := fun e => by injection e; have := hS2.lt; omega
  have hER : w2.heap.size ≠ w.heap.size := by omega
  have hRE : w.heap.size ≠ w2.heap.size := by omega
  replace r0 := (hWV.cell hlR hneR).trans r0
  replace r1 := (hWV.cell hlR hneR).trans r1
  replace r2 := (hWV.cell hlR hneR).trans r2
  replace r3 := (hWV.cell hlR hneR).trans r3
  replace r4 := (hWV.cell hlR hneR).trans r4
  replace y0 := (hWV.free hlR hneR).trans y0
  replace y1 := (hWV.free hlR hneR).trans y1
  replace y2 := (hWV.free hlR hneR).trans y2
  replace y3 := (hWV.free hlR hneR).trans y3
  replace y4 := (hWV.free hlR hneR).trans y4
  replace hB := hB.wrote hWV
  replace hS := hS2.ext xV
  have hwV := Wrote.ext hww hWV (fun k hk => by injection hk; omega)
  have hsV := hWV.size
  replace hlR : w.heap.size < V.heap.size := by omega
  clear hV hWc hWV hS2 xV hww hxs hs2 hsV
  generalize w2.heap.size = gE at *
  have hW0 := Wrote.refl (some g) V
  go_upto_region 4 with (go_at_call 63; refine (drawTorque_any g n cp 24 a _ hS hB (by omega) hn).mono ?_; rintro e w3 ⟨q0, rfl, hS2, hWc⟩; replace hB := hB.wrote hWc; replace hW0 := hW0.trans hWc; clear hS hWc; have hS := hS2; clear hS2)
  have hsV := hW0.size
  replace r0 := (hW0.cell hlR hneR).trans r0
  replace r1 := (hW0.cell hlR hneR).trans r1
  replace r2 := (hW0.cell hlR hneR).trans r2
  replace r3 := (hW0.cell hlR hneR).trans r3
  replace r4 := (hW0.cell hlR hneR).trans r4
  replace y0 := (hW0.free hlR hneR).trans y0
  replace y1 := (hW0.free hlR hneR).trans y1
  replace y2 := (hW0.free hlR hneR).trans y2
  replace y3 := (hW0.free hlR hneR).trans y3
  replace y4 := (hW0.free hlR hneR).trans y4
  replace e0 := (hW0.cell hlE hneE).trans e0
  replace e1 := (hW0.cell hlE hneE).trans e1
  replace e2 := (hW0.cell hlE hneE).trans e2
  replace e3 := (hW0.cell hlE hneE).trans e3
  replace e4 := (hW0.cell hlE hneE).trans e4
  replace z0 := (hW0.free hlE hneE).trans z0
  replace z1 := (hW0.free hlE hneE).trans z1
  replace z2 := (hW0.free hlE hneE).trans z2
  replace z3 := (hW0.free hlE hneE).trans z3
  replace z4 := (hW0.free hlE hneE).trans z4
  replace hlR := Nat.lt_of_lt_of_le hlR hsV
  replace hlE := Nat.lt_of_lt_of_le hlE hsV
  replace hwV := Wrote.ext hwV hW0 (fun k hk => by injection hk; omega)
  clear hW0
  have hW0 := Wrote.refl (some g) w3
  go_region_held3 (fun w' => w'.cell? ⟨gE, 0, none⟩ = some (.int .i64 v0) ∧ w'.cell? ⟨gE, 1, none⟩ = some (.int .i64 v1) ∧ w'.cell? ⟨gE, 2, none⟩ = some (.int .i64 v2) ∧ w'.cell? ⟨gE, 3, none⟩ = some (.int .i64 v3) ∧ w'.cell? ⟨gE, 4, none⟩ = some (.int .i64 v4))
    (first | (refine ⟨?_, ?_, ?_, ?_, ?_⟩ <;> with_reducible assumption) | (refine ⟨?_, ?_, ?_, ?_, ?_⟩ <;> with_reducible (refine (kE _).trans ?_ <;> assumption)) | (refine ⟨?_, ?_, ?_, ?_, ?_⟩ <;> with_reducible ((repeat (refine keep_other (by assumption) ?_)); refine (kE _).trans ?_; assumption)) | go_keep)
    (first | (go_at_call 82; refine (drawCount_any g n cp 28 a _ (by first | exact hS | exact hS.ext ((Ext.refl _).drew) | exact hS.ext ((Ext.refl _).drewN _)) (by first | exact hB | exact hB.ext ((Ext.refl _).drew) | exact hB.ext ((Ext.refl _).drewN _)) (by omega) hn).mono ?_; rintro e w9 ⟨p, rfl, hS2, hWc⟩; (first | replace hW0 := hW0.trans hWc | replace hW0 := (hW0.trans (Wrote.of_ext _ ((Ext.refl _).drew))).trans hWc | replace hW0 := (hW0.trans (Wrote.of_ext _ ((Ext.refl _).drewN _))).trans hWc); have kE : ∀ o, w9.cell? ⟨gE, o, none⟩ = _ := fun o => hW0.cell hlE hneE; have kR : ∀ o, w9.cell? ⟨w.heap.size, o, none⟩ = _ := fun o => hW0.cell hlR hneR; have kr : ∀ o, w9.frozen? ⟨w.heap.size, o, none⟩ = _ := fun o => hW0.free hlR hneR))
  all_goals go_wp2_with fail
  all_goals refine bodyPost_ret (v := ?_) ?_ rfl ?_
  all_goals try (simp [results, Try.results54, go_sem, *]; exact rfl)
  all_goals exact ⟨⟨_, _, _, _, _, _, _, rfl⟩, by (repeat (refine Ext.setCell ?_ (by simp; try omega) _)); exact Wrote.ext hwV hW0 (fun k hk => by injection hk; omega)⟩

end Go.Proofs.Ytehebhphlaghfaa
