/-
  The walk of the law FnTeethSizes.
-/
import Derived.Test.YtbhhiodbhlhpmaaDrawS
import Derived.Test.YtbhhiodbhlhpmaaSizesP
import Derived.Test.YtbhhiodbhlhpmaaDice
import Derived.Test.YtbhhiodbhlhpmaaHeld
namespace Go.Proofs.Ytbhhiodbhlhpmaa
open Go.RowKit
set_option linter.unusedSimpArgs false
set_option linter.unusedVariables false

set_option maxRecDepth 100000 in
set_option maxHeartbeats 2000000 in
theorem fnSizes_walk (a : Option Addr) (n cp : Nat) (w : World) (hB : RowB w w.heap.size a n) :
    Calls Try.prog 17 #[.slice a n cp] w fun e w' => e = .returned (.bool true) ∧ Ext w w' := by
  by_cases hbig : 4096 < n
  · have t1 : decide (4096 < n) = true := by simpa using hbig
    go_enter Try.func17, Try.ntmps17
    go_wp2_with (first | (go_at_call 37; refine (f6big_any a n cp _).mono ?_; rintro e w1 ⟨rfl, rfl⟩; rw [t1]))
    go_ret
    exact ⟨rfl, Ext.refl _⟩
  have t1 : decide (4096 < n) = false := by simpa using hbig
  go_enter Try.func17, Try.ntmps17
  go_upto_region 4 with (first | (go_at_call 37; refine (f6big_any a n cp _).mono ?_; rintro e w1 ⟨rfl, rfl⟩; rw [t1]) | (go_at_call 48; refine (drawThick_any a n cp _ hB (by omega)).mono ?_; rintro e w1 ⟨⟨v0, v1, v2, v3, v4, v5, q, rfl⟩, x1⟩))
  generalize hV : World.alloc _ _ = V
  have hE : Ext w V := by rw [← hV]; exact (x1.alloc _)
  have hlf : w1.heap.size < V.heap.size := by rw [← hV]; simp; try omega
  have f0 : V.cell? ⟨w1.heap.size, 0, none⟩ = some (.int .i64 v0) := by rw [← hV]; simp [go_sem]
  have f1 : V.cell? ⟨w1.heap.size, 1, none⟩ = some (.int .i64 v1) := by rw [← hV]; simp [go_sem]
  have f2 : V.cell? ⟨w1.heap.size, 2, none⟩ = some (.int .i64 v2) := by rw [← hV]; simp [go_sem]
  have f3 : V.cell? ⟨w1.heap.size, 3, none⟩ = some (.int .i64 v3) := by rw [← hV]; simp [go_sem]
  have f4 : V.cell? ⟨w1.heap.size, 4, none⟩ = some (.int .i64 v4) := by rw [← hV]; simp [go_sem]
  have f5 : V.cell? ⟨w1.heap.size, 5, none⟩ = some (.int .i64 v5) := by rw [← hV]; simp [go_sem]
  clear hV x1
  generalize w1.heap.size = gA at *
  have x0 := Ext.refl V
  have th := th_cases v0 v1 v2 v3 v4 v5 q
  generalize hDP : diaP v0 v1 v2 v3 v4 v5 = DP at *
  generalize hDO : diaO v0 v1 v2 v3 v4 v5 = DO at *
  generalize hDR : diaR v0 v1 v2 v3 v4 v5 = DR at *
  generalize hDC : diaC v0 v1 v2 v3 v4 v5 = DC at *
  generalize hTL : thL v0 v1 v2 v3 v4 v5 q = TL at *
  generalize hTH : thH v0 v1 v2 v3 v4 v5 q = TH at *
  generalize hTC : thC v0 v1 v2 v3 v4 v5 q = TC at *
  rcases th with hc | ⟨hc, bm, bq, hp, g1, g2, bl, bh, g3, g4⟩
  · have hc2 : (TC != 0) = true := by simpa using hc
    go_upto_region 6 with (first | (go_at_call 34; refine (implThickness_any v0 v1 v2 v3 v4 v5 q _).mono ?_; rintro e w2 ⟨rfl, x2⟩; rw [hTL, hTH, hTC]; replace x0 := (by first | exact x0.trans x2 | exact (x0.alloc _).trans x2 | exact ((x0.alloc _).alloc _).trans x2 | exact (((x0.alloc _).alloc _).alloc _).trans x2); clear x2; (try clear xc xf xs); obtain ⟨xc, xf, xs⟩ := x0.cells) | (go_at_call 33; refine (specThickness_any v0 v1 v2 v3 v4 v5 q _).mono ?_; rintro e w2 ⟨rfl, x2⟩; rw [hTL, hTH, hTC]; replace x0 := (by first | exact x0.trans x2 | exact (x0.alloc _).trans x2 | exact ((x0.alloc _).alloc _).trans x2 | exact (((x0.alloc _).alloc _).alloc _).trans x2); clear x2; (try clear xc xf xs); obtain ⟨xc, xf, xs⟩ := x0.cells))
    have hX := x0
    replace f0 := (hX.cells.1 _ _ hlf).trans f0
    replace f1 := (hX.cells.1 _ _ hlf).trans f1
    replace f2 := (hX.cells.1 _ _ hlf).trans f2
    replace f3 := (hX.cells.1 _ _ hlf).trans f3
    replace f4 := (hX.cells.1 _ _ hlf).trans f4
    replace f5 := (hX.cells.1 _ _ hlf).trans f5
    replace hlf := Nat.lt_of_lt_of_le hlf hX.size
    replace hE := hE.trans hX
    clear hX x0 xc xf xs
    have x0 := Ext.refl w2
    go_upto_region 8 with (first | (go_at_call 30; refine (implDiameters_any v0 v1 v2 v3 v4 v5 _).mono ?_; rintro e w2 ⟨rfl, x2⟩; rw [hDP, hDO, hDR, hDC]; replace x0 := (by first | exact x0.trans x2 | exact (x0.alloc _).trans x2 | exact ((x0.alloc _).alloc _).trans x2 | exact (((x0.alloc _).alloc _).alloc _).trans x2); clear x2; (try clear xc xf xs); obtain ⟨xc, xf, xs⟩ := x0.cells) | (go_at_call 29; refine (specDiameters_any v0 v1 v2 v3 v4 v5 _).mono ?_; rintro e w2 ⟨rfl, x2⟩; rw [hDP, hDO, hDR, hDC]; replace x0 := (by first | exact x0.trans x2 | exact (x0.alloc _).trans x2 | exact ((x0.alloc _).alloc _).trans x2 | exact (((x0.alloc _).alloc _).alloc _).trans x2); clear x2; (try clear xc xf xs); obtain ⟨xc, xf, xs⟩ := x0.cells))
    have hX := x0
    replace f0 := (hX.cells.1 _ _ hlf).trans f0
    replace f1 := (hX.cells.1 _ _ hlf).trans f1
    replace f2 := (hX.cells.1 _ _ hlf).trans f2
    replace f3 := (hX.cells.1 _ _ hlf).trans f3
    replace f4 := (hX.cells.1 _ _ hlf).trans f4
    replace f5 := (hX.cells.1 _ _ hlf).trans f5
    replace hlf := Nat.lt_of_lt_of_le hlf hX.size
    replace hE := hE.trans hX
    clear hX x0 xc xf xs
    have x0 := Ext.refl w2
    clear hTL hTH hTC hDP hDO hDR hDC
    go_region_held3 (fun w' => w'.cell? ⟨gA, 0, none⟩ = some (.int .i64 v0) ∧ w'.cell? ⟨gA, 1, none⟩ = some (.int .i64 v1) ∧ w'.cell? ⟨gA, 2, none⟩ = some (.int .i64 v2) ∧ w'.cell? ⟨gA, 3, none⟩ = some (.int .i64 v3) ∧ w'.cell? ⟨gA, 4, none⟩ = some (.int .i64 v4) ∧ w'.cell? ⟨gA, 5, none⟩ = some (.int .i64 v5))
      (first | (refine ⟨?_, ?_, ?_, ?_, ?_, ?_⟩ <;> with_reducible assumption) | (refine ⟨?_, ?_, ?_, ?_, ?_, ?_⟩ <;> (refine keep_ext (W := w2) ?_ (by assumption) (by assumption); exact x0)) | go_keep)
      (first | (go_at_call 25; refine (implValidProfile_any v0 v1 v2 v3 v4 v5 _).mono ?_; rintro e w8 ⟨rfl, x2⟩; replace x0 := (by first | exact x0.trans x2 | exact (x0.drew).trans x2 | exact (x0.drewN _).trans x2); clear x2) | (go_at_call 23; refine (specValidProfile_any v0 v1 v2 v3 v4 v5 _).mono ?_; rintro e w8 ⟨rfl, x2⟩; replace x0 := (by first | exact x0.trans x2 | exact (x0.drew).trans x2 | exact (x0.drewN _).trans x2); clear x2))
    have hX := x0
    replace f0 := (hX.cells.1 _ _ hlf).trans f0
    replace f1 := (hX.cells.1 _ _ hlf).trans f1
    replace f2 := (hX.cells.1 _ _ hlf).trans f2
    replace f3 := (hX.cells.1 _ _ hlf).trans f3
    replace f4 := (hX.cells.1 _ _ hlf).trans f4
    replace f5 := (hX.cells.1 _ _ hlf).trans f5
    replace hlf := Nat.lt_of_lt_of_le hlf hX.size
    replace hE := hE.trans hX
    clear hX x0
    have x0 := Ext.refl w8
    go_upto_region 11 with (first | (go_at_call 49; refine (drawFit_any a n cp _ (hB.to (hE.trans x0) (hE.trans x0).size) (by omega)).mono ?_; rintro e w2 ⟨⟨u0, u1, d, rfl⟩, x2⟩; replace x0 := (by first | exact x0.trans x2 | exact (x0.alloc _).trans x2 | exact ((x0.alloc _).alloc _).trans x2 | exact (((x0.alloc _).alloc _).alloc _).trans x2); clear x2; (try clear xc xf xs); obtain ⟨xc, xf, xs⟩ := x0.cells))
    generalize hV : World.alloc _ _ = V2
    have hX := (show Ext _ V2 from (by rw [← hV]; exact (x0.alloc _)))
    have hlp : w2.heap.size < V2.heap.size := by rw [← hV]; simp; try omega
    have p0 : V2.cell? ⟨w2.heap.size, 0, none⟩ = some (.int .i64 u0) := by rw [← hV]; simp [go_sem]
    have p1 : V2.cell? ⟨w2.heap.size, 1, none⟩ = some (.int .i64 u1) := by rw [← hV]; simp [go_sem]
    replace f0 := (hX.cells.1 _ _ hlf).trans f0
    replace f1 := (hX.cells.1 _ _ hlf).trans f1
    replace f2 := (hX.cells.1 _ _ hlf).trans f2
    replace f3 := (hX.cells.1 _ _ hlf).trans f3
    replace f4 := (hX.cells.1 _ _ hlf).trans f4
    replace f5 := (hX.cells.1 _ _ hlf).trans f5
    replace hlf := Nat.lt_of_lt_of_le hlf hX.size
    replace hE := hE.trans hX
    clear hV hX x0 xc xf xs
    generalize w2.heap.size = gP at *
    have x0 := Ext.refl V2
    have ft := ft_cases u0 u1 d
    generalize hFM : fitM u0 u1 d = FM at *
    generalize hFC : fitC u0 u1 d = FC at *
    rcases ft with ft | ⟨k1, k2, k3, k4, k5⟩
    · have k2 : (FC == 0) = false := by simpa using ft
      go_upto_region 13 with (first | (go_at_call 28; refine (implFitModule_any u0 u1 d _).mono ?_; rintro e w2 ⟨rfl, x2⟩; rw [hFM, hFC]; replace x0 := (by first | exact x0.trans x2 | exact (x0.alloc _).trans x2 | exact ((x0.alloc _).alloc _).trans x2 | exact (((x0.alloc _).alloc _).alloc _).trans x2); clear x2; (try clear xc xf xs); obtain ⟨xc, xf, xs⟩ := x0.cells) | (go_at_call 26; refine (specFitModule_any u0 u1 d _).mono ?_; rintro e w2 ⟨rfl, x2⟩; rw [hFM, hFC]; replace x0 := (by first | exact x0.trans x2 | exact (x0.alloc _).trans x2 | exact ((x0.alloc _).alloc _).trans x2 | exact (((x0.alloc _).alloc _).alloc _).trans x2); clear x2; (try clear xc xf xs); obtain ⟨xc, xf, xs⟩ := x0.cells))
      have hX := x0
      replace f0 := (hX.cells.1 _ _ hlf).trans f0
      replace f1 := (hX.cells.1 _ _ hlf).trans f1
      replace f2 := (hX.cells.1 _ _ hlf).trans f2
      replace f3 := (hX.cells.1 _ _ hlf).trans f3
      replace f4 := (hX.cells.1 _ _ hlf).trans f4
      replace f5 := (hX.cells.1 _ _ hlf).trans f5
      replace hlf := Nat.lt_of_lt_of_le hlf hX.size
      replace p0 := (hX.cells.1 _ _ hlp).trans p0
      replace p1 := (hX.cells.1 _ _ hlp).trans p1
      replace hlp := Nat.lt_of_lt_of_le hlp hX.size
      replace hE := hE.trans hX
      clear hX x0 xc xf xs
      have x0 := Ext.refl w2
      go_wp2_with fail
      go_ret
      exact ⟨rfl, hE⟩
    · subst k1
      go_upto_region 13 with (first | (go_at_call 28; refine (implFitModule_any u0 u1 d _).mono ?_; rintro e w2 ⟨rfl, x2⟩; rw [hFM, hFC]; replace x0 := (by first | exact x0.trans x2 | exact (x0.alloc _).trans x2 | exact ((x0.alloc _).alloc _).trans x2 | exact (((x0.alloc _).alloc _).alloc _).trans x2); clear x2; (try clear xc xf xs); obtain ⟨xc, xf, xs⟩ := x0.cells) | (go_at_call 26; refine (specFitModule_any u0 u1 d _).mono ?_; rintro e w2 ⟨rfl, x2⟩; rw [hFM, hFC]; replace x0 := (by first | exact x0.trans x2 | exact (x0.alloc _).trans x2 | exact ((x0.alloc _).alloc _).trans x2 | exact (((x0.alloc _).alloc _).alloc _).trans x2); clear x2; (try clear xc xf xs); obtain ⟨xc, xf, xs⟩ := x0.cells))
      have hX := x0
      replace f0 := (hX.cells.1 _ _ hlf).trans f0
      replace f1 := (hX.cells.1 _ _ hlf).trans f1
      replace f2 := (hX.cells.1 _ _ hlf).trans f2
      replace f3 := (hX.cells.1 _ _ hlf).trans f3
      replace f4 := (hX.cells.1 _ _ hlf).trans f4
      replace f5 := (hX.cells.1 _ _ hlf).trans f5
      replace hlf := Nat.lt_of_lt_of_le hlf hX.size
      replace p0 := (hX.cells.1 _ _ hlp).trans p0
      replace p1 := (hX.cells.1 _ _ hlp).trans p1
      replace hlp := Nat.lt_of_lt_of_le hlp hX.size
      replace hE := hE.trans hX
      clear hX x0 xc xf xs
      have x0 := Ext.refl w2
      clear hFM hFC
      go_wp2_with fail
      go_ret
      exact ⟨rfl, hE⟩
  · subst hc
    generalize hPA : piLo (10 * v1) = PA at *
    generalize hPB : piHi (10 * v1) = PB at *
    have qm : IntKind.i64.wrap (10 * v1) = 10 * v1 := IntWalk.i64_in _ (by omega)
    go_upto_region 6 with (first | (go_at_call 34; refine (implThickness_any v0 v1 v2 v3 v4 v5 q _).mono ?_; rintro e w2 ⟨rfl, x2⟩; rw [hTL, hTH, hTC]; replace x0 := (by first | exact x0.trans x2 | exact (x0.alloc _).trans x2 | exact ((x0.alloc _).alloc _).trans x2 | exact (((x0.alloc _).alloc _).alloc _).trans x2); clear x2; (try clear xc xf xs); obtain ⟨xc, xf, xs⟩ := x0.cells) | (go_at_call 33; refine (specThickness_any v0 v1 v2 v3 v4 v5 q _).mono ?_; rintro e w2 ⟨rfl, x2⟩; rw [hTL, hTH, hTC]; replace x0 := (by first | exact x0.trans x2 | exact (x0.alloc _).trans x2 | exact ((x0.alloc _).alloc _).trans x2 | exact (((x0.alloc _).alloc _).alloc _).trans x2); clear x2; (try clear xc xf xs); obtain ⟨xc, xf, xs⟩ := x0.cells))
    have hX := x0
    replace f0 := (hX.cells.1 _ _ hlf).trans f0
    replace f1 := (hX.cells.1 _ _ hlf).trans f1
    replace f2 := (hX.cells.1 _ _ hlf).trans f2
    replace f3 := (hX.cells.1 _ _ hlf).trans f3
    replace f4 := (hX.cells.1 _ _ hlf).trans f4
    replace f5 := (hX.cells.1 _ _ hlf).trans f5
    replace hlf := Nat.lt_of_lt_of_le hlf hX.size
    replace hE := hE.trans hX
    clear hX x0 xc xf xs
    have x0 := Ext.refl w2
    go_upto_region 8 with (first | (go_at_call 30; refine (implDiameters_any v0 v1 v2 v3 v4 v5 _).mono ?_; rintro e w2 ⟨rfl, x2⟩; rw [hDP, hDO, hDR, hDC]; replace x0 := (by first | exact x0.trans x2 | exact (x0.alloc _).trans x2 | exact ((x0.alloc _).alloc _).trans x2 | exact (((x0.alloc _).alloc _).alloc _).trans x2); clear x2; (try clear xc xf xs); obtain ⟨xc, xf, xs⟩ := x0.cells) | (go_at_call 29; refine (specDiameters_any v0 v1 v2 v3 v4 v5 _).mono ?_; rintro e w2 ⟨rfl, x2⟩; rw [hDP, hDO, hDR, hDC]; replace x0 := (by first | exact x0.trans x2 | exact (x0.alloc _).trans x2 | exact ((x0.alloc _).alloc _).trans x2 | exact (((x0.alloc _).alloc _).alloc _).trans x2); clear x2; (try clear xc xf xs); obtain ⟨xc, xf, xs⟩ := x0.cells))
    have hX := x0
    replace f0 := (hX.cells.1 _ _ hlf).trans f0
    replace f1 := (hX.cells.1 _ _ hlf).trans f1
    replace f2 := (hX.cells.1 _ _ hlf).trans f2
    replace f3 := (hX.cells.1 _ _ hlf).trans f3
    replace f4 := (hX.cells.1 _ _ hlf).trans f4
    replace f5 := (hX.cells.1 _ _ hlf).trans f5
    replace hlf := Nat.lt_of_lt_of_le hlf hX.size
    replace hE := hE.trans hX
    clear hX x0 xc xf xs
    have x0 := Ext.refl w2
    clear hTL hTH hTC hDP hDO hDR hDC
    go_region_held3 (fun w' => w'.cell? ⟨gA, 0, none⟩ = some (.int .i64 v0) ∧ w'.cell? ⟨gA, 1, none⟩ = some (.int .i64 v1) ∧ w'.cell? ⟨gA, 2, none⟩ = some (.int .i64 v2) ∧ w'.cell? ⟨gA, 3, none⟩ = some (.int .i64 v3) ∧ w'.cell? ⟨gA, 4, none⟩ = some (.int .i64 v4) ∧ w'.cell? ⟨gA, 5, none⟩ = some (.int .i64 v5))
      (first | (refine ⟨?_, ?_, ?_, ?_, ?_, ?_⟩ <;> with_reducible assumption) | (refine ⟨?_, ?_, ?_, ?_, ?_, ?_⟩ <;> (refine keep_ext (W := w2) ?_ (by assumption) (by assumption); exact x0)) | go_keep)
      (first | (go_at_call 25; refine (implValidProfile_any v0 v1 v2 v3 v4 v5 _).mono ?_; rintro e w8 ⟨rfl, x2⟩; replace x0 := (by first | exact x0.trans x2 | exact (x0.drew).trans x2 | exact (x0.drewN _).trans x2); clear x2) | (go_at_call 23; refine (specValidProfile_any v0 v1 v2 v3 v4 v5 _).mono ?_; rintro e w8 ⟨rfl, x2⟩; replace x0 := (by first | exact x0.trans x2 | exact (x0.drew).trans x2 | exact (x0.drewN _).trans x2); clear x2))
    have hX := x0
    replace f0 := (hX.cells.1 _ _ hlf).trans f0
    replace f1 := (hX.cells.1 _ _ hlf).trans f1
    replace f2 := (hX.cells.1 _ _ hlf).trans f2
    replace f3 := (hX.cells.1 _ _ hlf).trans f3
    replace f4 := (hX.cells.1 _ _ hlf).trans f4
    replace f5 := (hX.cells.1 _ _ hlf).trans f5
    replace hlf := Nat.lt_of_lt_of_le hlf hX.size
    replace hE := hE.trans hX
    clear hX x0
    have x0 := Ext.refl w8
    go_upto_region 11 with (first | (go_at_call 49; refine (drawFit_any a n cp _ (hB.to (hE.trans x0) (hE.trans x0).size) (by omega)).mono ?_; rintro e w2 ⟨⟨u0, u1, d, rfl⟩, x2⟩; replace x0 := (by first | exact x0.trans x2 | exact (x0.alloc _).trans x2 | exact ((x0.alloc _).alloc _).trans x2 | exact (((x0.alloc _).alloc _).alloc _).trans x2); clear x2; (try clear xc xf xs); obtain ⟨xc, xf, xs⟩ := x0.cells))
    generalize hV : World.alloc _ _ = V2
    have hX := (show Ext _ V2 from (by rw [← hV]; exact (x0.alloc _)))
    have hlp : w2.heap.size < V2.heap.size := by rw [← hV]; simp; try omega
    have p0 : V2.cell? ⟨w2.heap.size, 0, none⟩ = some (.int .i64 u0) := by rw [← hV]; simp [go_sem]
    have p1 : V2.cell? ⟨w2.heap.size, 1, none⟩ = some (.int .i64 u1) := by rw [← hV]; simp [go_sem]
    replace f0 := (hX.cells.1 _ _ hlf).trans f0
    replace f1 := (hX.cells.1 _ _ hlf).trans f1
    replace f2 := (hX.cells.1 _ _ hlf).trans f2
    replace f3 := (hX.cells.1 _ _ hlf).trans f3
    replace f4 := (hX.cells.1 _ _ hlf).trans f4
    replace f5 := (hX.cells.1 _ _ hlf).trans f5
    replace hlf := Nat.lt_of_lt_of_le hlf hX.size
    replace hE := hE.trans hX
    clear hV hX x0 xc xf xs
    generalize w2.heap.size = gP at *
    have x0 := Ext.refl V2
    have ft := ft_cases u0 u1 d
    generalize hFM : fitM u0 u1 d = FM at *
    generalize hFC : fitC u0 u1 d = FC at *
    rcases ft with ft | ⟨k1, k2, k3, k4, k5⟩
    · have k2 : (FC == 0) = false := by simpa using ft
      go_upto_region 13 with (first | (go_at_call 28; refine (implFitModule_any u0 u1 d _).mono ?_; rintro e w2 ⟨rfl, x2⟩; rw [hFM, hFC]; replace x0 := (by first | exact x0.trans x2 | exact (x0.alloc _).trans x2 | exact ((x0.alloc _).alloc _).trans x2 | exact (((x0.alloc _).alloc _).alloc _).trans x2); clear x2; (try clear xc xf xs); obtain ⟨xc, xf, xs⟩ := x0.cells) | (go_at_call 26; refine (specFitModule_any u0 u1 d _).mono ?_; rintro e w2 ⟨rfl, x2⟩; rw [hFM, hFC]; replace x0 := (by first | exact x0.trans x2 | exact (x0.alloc _).trans x2 | exact ((x0.alloc _).alloc _).trans x2 | exact (((x0.alloc _).alloc _).alloc _).trans x2); clear x2; (try clear xc xf xs); obtain ⟨xc, xf, xs⟩ := x0.cells))
      have hX := x0
      replace f0 := (hX.cells.1 _ _ hlf).trans f0
      replace f1 := (hX.cells.1 _ _ hlf).trans f1
      replace f2 := (hX.cells.1 _ _ hlf).trans f2
      replace f3 := (hX.cells.1 _ _ hlf).trans f3
      replace f4 := (hX.cells.1 _ _ hlf).trans f4
      replace f5 := (hX.cells.1 _ _ hlf).trans f5
      replace hlf := Nat.lt_of_lt_of_le hlf hX.size
      replace p0 := (hX.cells.1 _ _ hlp).trans p0
      replace p1 := (hX.cells.1 _ _ hlp).trans p1
      replace hlp := Nat.lt_of_lt_of_le hlp hX.size
      replace hE := hE.trans hX
      clear hX x0 xc xf xs
      have x0 := Ext.refl w2
      go_upto_region 18 with (first | (go_at_call 22; refine (implPiBounds_any (10 * v1) _).mono ?_; rintro e w7 ⟨rfl, rfl⟩; rw [hp, hPA, hPB]))
      go_wp2_with fail
      go_ret
      exact ⟨rfl, hE⟩
    · subst k1
      go_upto_region 13 with (first | (go_at_call 28; refine (implFitModule_any u0 u1 d _).mono ?_; rintro e w2 ⟨rfl, x2⟩; rw [hFM, hFC]; replace x0 := (by first | exact x0.trans x2 | exact (x0.alloc _).trans x2 | exact ((x0.alloc _).alloc _).trans x2 | exact (((x0.alloc _).alloc _).alloc _).trans x2); clear x2; (try clear xc xf xs); obtain ⟨xc, xf, xs⟩ := x0.cells) | (go_at_call 26; refine (specFitModule_any u0 u1 d _).mono ?_; rintro e w2 ⟨rfl, x2⟩; rw [hFM, hFC]; replace x0 := (by first | exact x0.trans x2 | exact (x0.alloc _).trans x2 | exact ((x0.alloc _).alloc _).trans x2 | exact (((x0.alloc _).alloc _).alloc _).trans x2); clear x2; (try clear xc xf xs); obtain ⟨xc, xf, xs⟩ := x0.cells))
      have hX := x0
      replace f0 := (hX.cells.1 _ _ hlf).trans f0
      replace f1 := (hX.cells.1 _ _ hlf).trans f1
      replace f2 := (hX.cells.1 _ _ hlf).trans f2
      replace f3 := (hX.cells.1 _ _ hlf).trans f3
      replace f4 := (hX.cells.1 _ _ hlf).trans f4
      replace f5 := (hX.cells.1 _ _ hlf).trans f5
      replace hlf := Nat.lt_of_lt_of_le hlf hX.size
      replace p0 := (hX.cells.1 _ _ hlp).trans p0
      replace p1 := (hX.cells.1 _ _ hlp).trans p1
      replace hlp := Nat.lt_of_lt_of_le hlp hX.size
      replace hE := hE.trans hX
      clear hX x0 xc xf xs
      have x0 := Ext.refl w2
      clear hFM hFC
      go_upto_region 18 with (first | (go_at_call 22; refine (implPiBounds_any (10 * v1) _).mono ?_; rintro e w7 ⟨rfl, rfl⟩; rw [hp, hPA, hPB]))
      go_wp2_with fail
      go_ret
      exact ⟨rfl, hE⟩
end Go.Proofs.Ytbhhiodbhlhpmaa
