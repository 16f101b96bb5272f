/-
  The walk of the law FnLeastTorque.
-/
import Derived.Test.YtehebhphlaghfaaEscP2
import Derived.Test.YtehebhphlaghfaaManyLaw
import Derived.Test.YtehebhphlaghfaaLeast
import Derived.Test.YtehebhphlaghfaaDrawsE
import Derived.Test.YtehebhphlaghfaaDice
namespace Go.Proofs.Ytehebhphlaghfaa
open Go.RowKit
set_option linter.unusedSimpArgs false
set_option linter.unusedVariables false

set_option maxRecDepth 100000 in
set_option maxHeartbeats 2000000 in
theorem fnLeastTorque_walk (a : Option Addr) (n cp : Nat) (w : World) (hB : RowB w w.heap.size a n) :
    Calls Try.prog 16 #[.slice a n cp] w fun e w' => e = .returned (.bool true) ∧ Ext w w' := by
  by_cases hbig : 4096 < n
  · have t1 : decide (4096 < n) = true := by simpa using hbig
    go_enter Try.func16, Try.ntmps16
    go_wp2_with (first | (go_at_call 24; refine (f6big_any a n cp _).mono ?_; rintro e w1 ⟨rfl, rfl⟩; rw [t1]))
    go_ret
    exact ⟨rfl, Ext.refl _⟩
  have t1 : decide (4096 < n) = false := by simpa using hbig
  go_enter Try.func16, Try.ntmps16
  go_upto_region 4 with (first | (go_at_call 24; refine (f6big_any a n cp _).mono ?_; rintro e w1 ⟨rfl, rfl⟩; rw [t1]) | (go_at_call 53; refine (drawLeastTorque_any a n cp _ hB (by omega)).mono ?_; rintro e w1 ⟨⟨v0, v1, v2, v3, v4, c, s0, s1, rfl⟩, x1⟩))
  generalize hV : World.alloc (World.alloc _ _) _ = V
  have hE : Ext w V := by rw [← hV]; exact ((x1.alloc _).alloc _)
  have hlf : w1.heap.size < V.heap.size := by rw [← hV]; simp; try omega
  have f0 : V.cell? ⟨w1.heap.size, 0, none⟩ = some (.int .i64 v0) := by rw [← hV]; simp [go_sem]
  have f1 : V.cell? ⟨w1.heap.size, 1, none⟩ = some (.int .i64 v1) := by rw [← hV]; simp [go_sem]
  have f2 : V.cell? ⟨w1.heap.size, 2, none⟩ = some (.int .i64 v2) := by rw [← hV]; simp [go_sem]
  have f3 : V.cell? ⟨w1.heap.size, 3, none⟩ = some (.int .i64 v3) := by rw [← hV]; simp [go_sem]
  have f4 : V.cell? ⟨w1.heap.size, 4, none⟩ = some (.int .i64 v4) := by rw [← hV]; simp [go_sem]
  have hlb : w1.heap.size + 1 < V.heap.size := by rw [← hV]; simp; try omega
  have b0 : V.cell? ⟨w1.heap.size + 1, 0, none⟩ = some (.int .i64 s0) := by rw [← hV]; simp [go_sem]
  have b1 : V.cell? ⟨w1.heap.size + 1, 1, none⟩ = some (.int .i64 s1) := by rw [← hV]; simp [go_sem]
  clear hV x1
  generalize w1.heap.size + 1 = gB at *
  generalize w1.heap.size = gE at *
  have x0 := Ext.refl V
  by_cases hc : ltC v0 v1 v2 v3 v4 c s0 s1 = 0
  · obtain ⟨xb, r1, r2, r3, r4⟩ := lt_ok hc
    generalize hX : ltR v0 v1 v2 v3 v4 c s0 s1 = X at xb r1 r2 r3 r4
    generalize hK : smK v0 v1 v2 v3 v4 (X - 1) c s0 0 = K at r4
    have qx : IntKind.i64.wrap (X - 1) = X - 1 := IntWalk.i64_in _ (by omega)
    have r5 : ¬ c ≤ K := by omega
    go_upto_region 9 with (first | (go_at_call 45; refine (implLeastTorque_any v0 v1 v2 v3 v4 c s0 s1 _).mono ?_; rintro e w2 ⟨rfl, x2⟩; rw [hc, hX]; replace x0 := (by first | exact x0.trans x2 | exact (x0.alloc _).trans x2 | exact ((x0.alloc _).alloc _).trans x2 | exact (((x0.alloc _).alloc _).alloc _).trans x2); clear x2; (try clear xc xf xs); obtain ⟨xc, xf, xs⟩ := x0.cells) | (go_at_call 44; refine (specLeastTorque_any v0 v1 v2 v3 v4 c s0 s1 _).mono ?_; rintro e w2 ⟨rfl, x2⟩; rw [hc, hX]; replace x0 := (by first | exact x0.trans x2 | exact (x0.alloc _).trans x2 | exact ((x0.alloc _).alloc _).trans x2 | exact (((x0.alloc _).alloc _).alloc _).trans x2); clear x2; (try clear xc xf xs); obtain ⟨xc, xf, xs⟩ := x0.cells) | (go_at_call 54; refine (drawLeastStart_any a n cp _ (hB.to (hE.trans x0) (hE.trans x0).size) (by omega)).mono ?_; rintro e w2 ⟨⟨u0, u1, u2, u3, u4, r, p, rfl⟩, x2⟩; replace x0 := (by first | exact x0.trans x2 | exact (x0.alloc _).trans x2 | exact ((x0.alloc _).alloc _).trans x2 | exact (((x0.alloc _).alloc _).alloc _).trans x2); clear x2; (try clear xc xf xs); obtain ⟨xc, xf, xs⟩ := x0.cells))
    generalize hV : World.alloc _ _ = V2
    have hX := (show Ext _ V2 from (by rw [← hV]; exact (x0.alloc _)))
    have hlg : w2.heap.size < V2.heap.size := by rw [← hV]; simp; try omega
    have g0 : V2.cell? ⟨w2.heap.size, 0, none⟩ = some (.int .i64 u0) := by rw [← hV]; simp [go_sem]
    have g1 : V2.cell? ⟨w2.heap.size, 1, none⟩ = some (.int .i64 u1) := by rw [← hV]; simp [go_sem]
    have g2 : V2.cell? ⟨w2.heap.size, 2, none⟩ = some (.int .i64 u2) := by rw [← hV]; simp [go_sem]
    have g3 : V2.cell? ⟨w2.heap.size, 3, none⟩ = some (.int .i64 u3) := by rw [← hV]; simp [go_sem]
    have g4 : V2.cell? ⟨w2.heap.size, 4, none⟩ = some (.int .i64 u4) := by rw [← hV]; simp [go_sem]
    replace f0 := (hX.cells.1 _ _ hlf).trans f0
    replace f1 := (hX.cells.1 _ _ hlf).trans f1
    replace f2 := (hX.cells.1 _ _ hlf).trans f2
    replace f3 := (hX.cells.1 _ _ hlf).trans f3
    replace f4 := (hX.cells.1 _ _ hlf).trans f4
    replace hlf := Nat.lt_of_lt_of_le hlf hX.size
    replace b0 := (hX.cells.1 _ _ hlb).trans b0
    replace b1 := (hX.cells.1 _ _ hlb).trans b1
    replace hlb := Nat.lt_of_lt_of_le hlb hX.size
    replace hE := hE.trans hX
    clear hV hX x0 xc xf xs
    generalize w2.heap.size = gG at *
    have x0 := Ext.refl V2
    by_cases hd : lsC u0 u1 u2 u3 u4 r p = 0
    · obtain ⟨yb, y1, y2, y4⟩ := ls_ok hd
      generalize hY : lsR u0 u1 u2 u3 u4 r p = Y at yb y1 y2 y4
      have qy : IntKind.i64.wrap (Y - 1) = Y - 1 := IntWalk.i64_in _ (by omega)
      rcases y4 with ⟨y5, y3⟩ | ⟨y5, y3, y6⟩
      · subst y5
        have q0 : IntKind.i64.wrap (-1) = -1 := by decide
        go_upto_region 14 with (first | (go_at_call 43; refine (implLeastStart_any u0 u1 u2 u3 u4 r p _).mono ?_; rintro e w2 ⟨rfl, x2⟩; rw [hd, hY]; replace x0 := (by first | exact x0.trans x2 | exact (x0.alloc _).trans x2 | exact ((x0.alloc _).alloc _).trans x2 | exact (((x0.alloc _).alloc _).alloc _).trans x2); clear x2; (try clear xc xf xs); obtain ⟨xc, xf, xs⟩ := x0.cells) | (go_at_call 42; refine (specLeastStart_any u0 u1 u2 u3 u4 r p _).mono ?_; rintro e w2 ⟨rfl, x2⟩; rw [hd, hY]; replace x0 := (by first | exact x0.trans x2 | exact (x0.alloc _).trans x2 | exact ((x0.alloc _).alloc _).trans x2 | exact (((x0.alloc _).alloc _).alloc _).trans x2); clear x2; (try clear xc xf xs); obtain ⟨xc, xf, xs⟩ := x0.cells))
        generalize hV : World.alloc _ _ = V3
        have hX := (show Ext _ V3 from (by rw [← hV]; exact (x0.alloc _)))
        have hlk : w2.heap.size < V3.heap.size := by rw [← hV]; simp; try omega
        have k0 : V3.cell? ⟨w2.heap.size, 0, none⟩ = some (.int .i64 s0) := by rw [← hV]; simp [go_sem]
        have k1 : V3.cell? ⟨w2.heap.size, 1, none⟩ = some (.int .i64 0) := by rw [← hV]; simp [go_sem]
        replace f0 := (hX.cells.1 _ _ hlf).trans f0
        replace f1 := (hX.cells.1 _ _ hlf).trans f1
        replace f2 := (hX.cells.1 _ _ hlf).trans f2
        replace f3 := (hX.cells.1 _ _ hlf).trans f3
        replace f4 := (hX.cells.1 _ _ hlf).trans f4
        replace hlf := Nat.lt_of_lt_of_le hlf hX.size
        replace b0 := (hX.cells.1 _ _ hlb).trans b0
        replace b1 := (hX.cells.1 _ _ hlb).trans b1
        replace hlb := Nat.lt_of_lt_of_le hlb hX.size
        replace g0 := (hX.cells.1 _ _ hlg).trans g0
        replace g1 := (hX.cells.1 _ _ hlg).trans g1
        replace g2 := (hX.cells.1 _ _ hlg).trans g2
        replace g3 := (hX.cells.1 _ _ hlg).trans g3
        replace g4 := (hX.cells.1 _ _ hlg).trans g4
        replace hlg := Nat.lt_of_lt_of_le hlg hX.size
        replace hE := hE.trans hX
        clear hV hX x0 xc xf xs
        generalize w2.heap.size = gC at *
        have x0 := Ext.refl V3
        go_upto_region 16 with (first | (go_at_call 47; refine (implSwingMany_any v0 v1 v2 v3 v4 X c s0 0 _).mono ?_; rintro e w2 ⟨rfl, x2⟩; rw [r1, r2]; replace x0 := (by first | exact x0.trans x2 | exact (x0.alloc _).trans x2 | exact ((x0.alloc _).alloc _).trans x2 | exact (((x0.alloc _).alloc _).alloc _).trans x2); clear x2; (try clear xc xf xs); obtain ⟨xc, xf, xs⟩ := x0.cells))
        generalize hV : World.alloc _ _ = V4
        have hX := (show Ext _ V4 from (by rw [← hV]; exact (x0.alloc _)))
        have hld : w2.heap.size < V4.heap.size := by rw [← hV]; simp; try omega
        have d0 : V4.cell? ⟨w2.heap.size, 0, none⟩ = some (.int .i64 (smE v0 v1 v2 v3 v4 X c s0 0)) := by rw [← hV]; simp [go_sem]
        have d1 : V4.cell? ⟨w2.heap.size, 1, none⟩ = some (.int .i64 c) := by rw [← hV]; simp [go_sem]
        replace f0 := (hX.cells.1 _ _ hlf).trans f0
        replace f1 := (hX.cells.1 _ _ hlf).trans f1
        replace f2 := (hX.cells.1 _ _ hlf).trans f2
        replace f3 := (hX.cells.1 _ _ hlf).trans f3
        replace f4 := (hX.cells.1 _ _ hlf).trans f4
        replace hlf := Nat.lt_of_lt_of_le hlf hX.size
        replace b0 := (hX.cells.1 _ _ hlb).trans b0
        replace b1 := (hX.cells.1 _ _ hlb).trans b1
        replace hlb := Nat.lt_of_lt_of_le hlb hX.size
        replace g0 := (hX.cells.1 _ _ hlg).trans g0
        replace g1 := (hX.cells.1 _ _ hlg).trans g1
        replace g2 := (hX.cells.1 _ _ hlg).trans g2
        replace g3 := (hX.cells.1 _ _ hlg).trans g3
        replace g4 := (hX.cells.1 _ _ hlg).trans g4
        replace hlg := Nat.lt_of_lt_of_le hlg hX.size
        replace k0 := (hX.cells.1 _ _ hlk).trans k0
        replace k1 := (hX.cells.1 _ _ hlk).trans k1
        replace hlk := Nat.lt_of_lt_of_le hlk hX.size
        replace hE := hE.trans hX
        clear hV hX x0 xc xf xs
        generalize w2.heap.size = gD at *
        have x0 := Ext.refl V4
        go_upto_region 17 with (first | (go_at_call 47; refine (implSwingMany_any v0 v1 v2 v3 v4 (X - 1) c s0 0 _).mono ?_; rintro e w2 ⟨rfl, x2⟩; rw [r3, hK]; replace x0 := (by first | exact x0.trans x2 | exact (x0.alloc _).trans x2 | exact ((x0.alloc _).alloc _).trans x2 | exact (((x0.alloc _).alloc _).alloc _).trans x2); clear x2; (try clear xc xf xs); obtain ⟨xc, xf, xs⟩ := x0.cells))
        generalize hV : World.alloc _ _ = V5
        have hX := (show Ext _ V5 from (by rw [← hV]; exact (x0.alloc _)))
        have hlh : w2.heap.size < V5.heap.size := by rw [← hV]; simp; try omega
        have h0 : V5.cell? ⟨w2.heap.size, 0, none⟩ = some (.int .i64 (smE v0 v1 v2 v3 v4 (X - 1) c s0 0)) := by rw [← hV]; simp [go_sem]
        have h1 : V5.cell? ⟨w2.heap.size, 1, none⟩ = some (.int .i64 K) := by rw [← hV]; simp [go_sem]
        replace f0 := (hX.cells.1 _ _ hlf).trans f0
        replace f1 := (hX.cells.1 _ _ hlf).trans f1
        replace f2 := (hX.cells.1 _ _ hlf).trans f2
        replace f3 := (hX.cells.1 _ _ hlf).trans f3
        replace f4 := (hX.cells.1 _ _ hlf).trans f4
        replace hlf := Nat.lt_of_lt_of_le hlf hX.size
        replace b0 := (hX.cells.1 _ _ hlb).trans b0
        replace b1 := (hX.cells.1 _ _ hlb).trans b1
        replace hlb := Nat.lt_of_lt_of_le hlb hX.size
        replace g0 := (hX.cells.1 _ _ hlg).trans g0
        replace g1 := (hX.cells.1 _ _ hlg).trans g1
        replace g2 := (hX.cells.1 _ _ hlg).trans g2
        replace g3 := (hX.cells.1 _ _ hlg).trans g3
        replace g4 := (hX.cells.1 _ _ hlg).trans g4
        replace hlg := Nat.lt_of_lt_of_le hlg hX.size
        replace k0 := (hX.cells.1 _ _ hlk).trans k0
        replace k1 := (hX.cells.1 _ _ hlk).trans k1
        replace hlk := Nat.lt_of_lt_of_le hlk hX.size
        replace d0 := (hX.cells.1 _ _ hld).trans d0
        replace d1 := (hX.cells.1 _ _ hld).trans d1
        replace hld := Nat.lt_of_lt_of_le hld hX.size
        replace hE := hE.trans hX
        clear hV hX x0 xc xf xs
        generalize w2.heap.size = gH at *
        have x0 := Ext.refl V5
        go_upto_region 19 with fail
        go_upto_region 22 with (first | (go_at_call 47; refine (implSwingMany_any u0 u1 u2 u3 u4 r p 0 0 _).mono ?_; rintro e w2 ⟨rfl, x2⟩; rw [y1, y2]; replace x0 := (by first | exact x0.trans x2 | exact (x0.alloc _).trans x2 | exact ((x0.alloc _).alloc _).trans x2 | exact (((x0.alloc _).alloc _).alloc _).trans x2); clear x2; (try clear xc xf xs); obtain ⟨xc, xf, xs⟩ := x0.cells))
        generalize hV : World.alloc _ _ = V6
        have hX := (show Ext _ V6 from (by rw [← hV]; exact (x0.alloc _)))
        have hli : w2.heap.size < V6.heap.size := by rw [← hV]; simp; try omega
        have i0 : V6.cell? ⟨w2.heap.size, 0, none⟩ = some (.int .i64 (smE u0 u1 u2 u3 u4 r p 0 0)) := by rw [← hV]; simp [go_sem]
        have i1 : V6.cell? ⟨w2.heap.size, 1, none⟩ = some (.int .i64 p) := by rw [← hV]; simp [go_sem]
        replace g0 := (hX.cells.1 _ _ hlg).trans g0
        replace g1 := (hX.cells.1 _ _ hlg).trans g1
        replace g2 := (hX.cells.1 _ _ hlg).trans g2
        replace g3 := (hX.cells.1 _ _ hlg).trans g3
        replace g4 := (hX.cells.1 _ _ hlg).trans g4
        replace hlg := Nat.lt_of_lt_of_le hlg hX.size
        replace hE := hE.trans hX
        clear hV hX x0 xc xf xs
        generalize w2.heap.size = gI at *
        have x0 := Ext.refl V6
        go_upto_region 23 with (first | (go_at_call 47; refine (implSwingMany_any u0 u1 u2 u3 u4 r p (-1) 0 _).mono ?_; rintro e w2 ⟨rfl, x2⟩; rw [y3]; replace x0 := (by first | exact x0.trans x2 | exact (x0.alloc _).trans x2 | exact ((x0.alloc _).alloc _).trans x2 | exact (((x0.alloc _).alloc _).alloc _).trans x2); clear x2; (try clear xc xf xs); obtain ⟨xc, xf, xs⟩ := x0.cells))
        generalize hV : World.alloc _ _ = V7
        have hX := (show Ext _ V7 from (by rw [← hV]; exact (x0.alloc _)))
        have hlj : w2.heap.size < V7.heap.size := by rw [← hV]; simp; try omega
        have j0 : V7.cell? ⟨w2.heap.size, 0, none⟩ = some (.int .i64 (smE u0 u1 u2 u3 u4 r p (-1) 0)) := by rw [← hV]; simp [go_sem]
        have j1 : V7.cell? ⟨w2.heap.size, 1, none⟩ = some (.int .i64 (smK u0 u1 u2 u3 u4 r p (-1) 0)) := by rw [← hV]; simp [go_sem]
        replace i0 := (hX.cells.1 _ _ hli).trans i0
        replace i1 := (hX.cells.1 _ _ hli).trans i1
        replace hli := Nat.lt_of_lt_of_le hli hX.size
        replace hE := hE.trans hX
        clear hV hX x0 xc xf xs
        generalize w2.heap.size = gJ at *
        have x0 := Ext.refl V7
        go_wp2_with fail
        go_ret
        exact ⟨rfl, hE⟩
      · have y7 : (Y == 0) = false := by simp; omega
        have y8 : ¬ Y = 0 := by omega
        generalize hJ : smK u0 u1 u2 u3 u4 r p (Y - 1) 0 = J at y6
        go_upto_region 14 with (first | (go_at_call 43; refine (implLeastStart_any u0 u1 u2 u3 u4 r p _).mono ?_; rintro e w2 ⟨rfl, x2⟩; rw [hd, hY]; replace x0 := (by first | exact x0.trans x2 | exact (x0.alloc _).trans x2 | exact ((x0.alloc _).alloc _).trans x2 | exact (((x0.alloc _).alloc _).alloc _).trans x2); clear x2; (try clear xc xf xs); obtain ⟨xc, xf, xs⟩ := x0.cells) | (go_at_call 42; refine (specLeastStart_any u0 u1 u2 u3 u4 r p _).mono ?_; rintro e w2 ⟨rfl, x2⟩; rw [hd, hY]; replace x0 := (by first | exact x0.trans x2 | exact (x0.alloc _).trans x2 | exact ((x0.alloc _).alloc _).trans x2 | exact (((x0.alloc _).alloc _).alloc _).trans x2); clear x2; (try clear xc xf xs); obtain ⟨xc, xf, xs⟩ := x0.cells))
        generalize hV : World.alloc _ _ = V3
        have hX := (show Ext _ V3 from (by rw [← hV]; exact (x0.alloc _)))
        have hlk : w2.heap.size < V3.heap.size := by rw [← hV]; simp; try omega
        have k0 : V3.cell? ⟨w2.heap.size, 0, none⟩ = some (.int .i64 s0) := by rw [← hV]; simp [go_sem]
        have k1 : V3.cell? ⟨w2.heap.size, 1, none⟩ = some (.int .i64 0) := by rw [← hV]; simp [go_sem]
        replace f0 := (hX.cells.1 _ _ hlf).trans f0
        replace f1 := (hX.cells.1 _ _ hlf).trans f1
        replace f2 := (hX.cells.1 _ _ hlf).trans f2
        replace f3 := (hX.cells.1 _ _ hlf).trans f3
        replace f4 := (hX.cells.1 _ _ hlf).trans f4
        replace hlf := Nat.lt_of_lt_of_le hlf hX.size
        replace b0 := (hX.cells.1 _ _ hlb).trans b0
        replace b1 := (hX.cells.1 _ _ hlb).trans b1
        replace hlb := Nat.lt_of_lt_of_le hlb hX.size
        replace g0 := (hX.cells.1 _ _ hlg).trans g0
        replace g1 := (hX.cells.1 _ _ hlg).trans g1
        replace g2 := (hX.cells.1 _ _ hlg).trans g2
        replace g3 := (hX.cells.1 _ _ hlg).trans g3
        replace g4 := (hX.cells.1 _ _ hlg).trans g4
        replace hlg := Nat.lt_of_lt_of_le hlg hX.size
        replace hE := hE.trans hX
        clear hV hX x0 xc xf xs
        generalize w2.heap.size = gC at *
        have x0 := Ext.refl V3
        go_upto_region 16 with (first | (go_at_call 47; refine (implSwingMany_any v0 v1 v2 v3 v4 X c s0 0 _).mono ?_; rintro e w2 ⟨rfl, x2⟩; rw [r1, r2]; replace x0 := (by first | exact x0.trans x2 | exact (x0.alloc _).trans x2 | exact ((x0.alloc _).alloc _).trans x2 | exact (((x0.alloc _).alloc _).alloc _).trans x2); clear x2; (try clear xc xf xs); obtain ⟨xc, xf, xs⟩ := x0.cells))
        generalize hV : World.alloc _ _ = V4
        have hX := (show Ext _ V4 from (by rw [← hV]; exact (x0.alloc _)))
        have hld : w2.heap.size < V4.heap.size := by rw [← hV]; simp; try omega
        have d0 : V4.cell? ⟨w2.heap.size, 0, none⟩ = some (.int .i64 (smE v0 v1 v2 v3 v4 X c s0 0)) := by rw [← hV]; simp [go_sem]
        have d1 : V4.cell? ⟨w2.heap.size, 1, none⟩ = some (.int .i64 c) := by rw [← hV]; simp [go_sem]
        replace f0 := (hX.cells.1 _ _ hlf).trans f0
        replace f1 := (hX.cells.1 _ _ hlf).trans f1
        replace f2 := (hX.cells.1 _ _ hlf).trans f2
        replace f3 := (hX.cells.1 _ _ hlf).trans f3
        replace f4 := (hX.cells.1 _ _ hlf).trans f4
        replace hlf := Nat.lt_of_lt_of_le hlf hX.size
        replace b0 := (hX.cells.1 _ _ hlb).trans b0
        replace b1 := (hX.cells.1 _ _ hlb).trans b1
        replace hlb := Nat.lt_of_lt_of_le hlb hX.size
        replace g0 := (hX.cells.1 _ _ hlg).trans g0
        replace g1 := (hX.cells.1 _ _ hlg).trans g1
        replace g2 := (hX.cells.1 _ _ hlg).trans g2
        replace g3 := (hX.cells.1 _ _ hlg).trans g3
        replace g4 := (hX.cells.1 _ _ hlg).trans g4
        replace hlg := Nat.lt_of_lt_of_le hlg hX.size
        replace k0 := (hX.cells.1 _ _ hlk).trans k0
        replace k1 := (hX.cells.1 _ _ hlk).trans k1
        replace hlk := Nat.lt_of_lt_of_le hlk hX.size
        replace hE := hE.trans hX
        clear hV hX x0 xc xf xs
        generalize w2.heap.size = gD at *
        have x0 := Ext.refl V4
        go_upto_region 17 with (first | (go_at_call 47; refine (implSwingMany_any v0 v1 v2 v3 v4 (X - 1) c s0 0 _).mono ?_; rintro e w2 ⟨rfl, x2⟩; rw [r3, hK]; replace x0 := (by first | exact x0.trans x2 | exact (x0.alloc _).trans x2 | exact ((x0.alloc _).alloc _).trans x2 | exact (((x0.alloc _).alloc _).alloc _).trans x2); clear x2; (try clear xc xf xs); obtain ⟨xc, xf, xs⟩ := x0.cells))
        generalize hV : World.alloc _ _ = V5
        have hX := (show Ext _ V5 from (by rw [← hV]; exact (x0.alloc _)))
        have hlh : w2.heap.size < V5.heap.size := by rw [← hV]; simp; try omega
        have h0 : V5.cell? ⟨w2.heap.size, 0, none⟩ = some (.int .i64 (smE v0 v1 v2 v3 v4 (X - 1) c s0 0)) := by rw [← hV]; simp [go_sem]
        have h1 : V5.cell? ⟨w2.heap.size, 1, none⟩ = some (.int .i64 K) := by rw [← hV]; simp [go_sem]
        replace f0 := (hX.cells.1 _ _ hlf).trans f0
        replace f1 := (hX.cells.1 _ _ hlf).trans f1
        replace f2 := (hX.cells.1 _ _ hlf).trans f2
        replace f3 := (hX.cells.1 _ _ hlf).trans f3
        replace f4 := (hX.cells.1 _ _ hlf).trans f4
        replace hlf := Nat.lt_of_lt_of_le hlf hX.size
        replace b0 := (hX.cells.1 _ _ hlb).trans b0
        replace b1 := (hX.cells.1 _ _ hlb).trans b1
        replace hlb := Nat.lt_of_lt_of_le hlb hX.size
        replace g0 := (hX.cells.1 _ _ hlg).trans g0
        replace g1 := (hX.cells.1 _ _ hlg).trans g1
        replace g2 := (hX.cells.1 _ _ hlg).trans g2
        replace g3 := (hX.cells.1 _ _ hlg).trans g3
        replace g4 := (hX.cells.1 _ _ hlg).trans g4
        replace hlg := Nat.lt_of_lt_of_le hlg hX.size
        replace k0 := (hX.cells.1 _ _ hlk).trans k0
        replace k1 := (hX.cells.1 _ _ hlk).trans k1
        replace hlk := Nat.lt_of_lt_of_le hlk hX.size
        replace d0 := (hX.cells.1 _ _ hld).trans d0
        replace d1 := (hX.cells.1 _ _ hld).trans d1
        replace hld := Nat.lt_of_lt_of_le hld hX.size
        replace hE := hE.trans hX
        clear hV hX x0 xc xf xs
        generalize w2.heap.size = gH at *
        have x0 := Ext.refl V5
        go_upto_region 19 with fail
        go_upto_region 22 with (first | (go_at_call 47; refine (implSwingMany_any u0 u1 u2 u3 u4 r p Y 0 _).mono ?_; rintro e w2 ⟨rfl, x2⟩; rw [y1, y2]; replace x0 := (by first | exact x0.trans x2 | exact (x0.alloc _).trans x2 | exact ((x0.alloc _).alloc _).trans x2 | exact (((x0.alloc _).alloc _).alloc _).trans x2); clear x2; (try clear xc xf xs); obtain ⟨xc, xf, xs⟩ := x0.cells))
        generalize hV : World.alloc _ _ = V6
        have hX := (show Ext _ V6 from (by rw [← hV]; exact (x0.alloc _)))
        have hli : w2.heap.size < V6.heap.size := by rw [← hV]; simp; try omega
        have i0 : V6.cell? ⟨w2.heap.size, 0, none⟩ = some (.int .i64 (smE u0 u1 u2 u3 u4 r p Y 0)) := by rw [← hV]; simp [go_sem]
        have i1 : V6.cell? ⟨w2.heap.size, 1, none⟩ = some (.int .i64 p) := by rw [← hV]; simp [go_sem]
        replace g0 := (hX.cells.1 _ _ hlg).trans g0
        replace g1 := (hX.cells.1 _ _ hlg).trans g1
        replace g2 := (hX.cells.1 _ _ hlg).trans g2
        replace g3 := (hX.cells.1 _ _ hlg).trans g3
        replace g4 := (hX.cells.1 _ _ hlg).trans g4
        replace hlg := Nat.lt_of_lt_of_le hlg hX.size
        replace hE := hE.trans hX
        clear hV hX x0 xc xf xs
        generalize w2.heap.size = gI at *
        have x0 := Ext.refl V6
        go_upto_region 23 with (first | (go_at_call 47; refine (implSwingMany_any u0 u1 u2 u3 u4 r p (Y - 1) 0 _).mono ?_; rintro e w2 ⟨rfl, x2⟩; rw [y3, hJ]; replace x0 := (by first | exact x0.trans x2 | exact (x0.alloc _).trans x2 | exact ((x0.alloc _).alloc _).trans x2 | exact (((x0.alloc _).alloc _).alloc _).trans x2); clear x2; (try clear xc xf xs); obtain ⟨xc, xf, xs⟩ := x0.cells))
        generalize hV : World.alloc _ _ = V7
        have hX := (show Ext _ V7 from (by rw [← hV]; exact (x0.alloc _)))
        have hlj : w2.heap.size < V7.heap.size := by rw [← hV]; simp; try omega
        have j0 : V7.cell? ⟨w2.heap.size, 0, none⟩ = some (.int .i64 (smE u0 u1 u2 u3 u4 r p (Y - 1) 0)) := by rw [← hV]; simp [go_sem]
        have j1 : V7.cell? ⟨w2.heap.size, 1, none⟩ = some (.int .i64 J) := by rw [← hV]; simp [go_sem]
        replace i0 := (hX.cells.1 _ _ hli).trans i0
        replace i1 := (hX.cells.1 _ _ hli).trans i1
        replace hli := Nat.lt_of_lt_of_le hli hX.size
        replace hE := hE.trans hX
        clear hV hX x0 xc xf xs
        generalize w2.heap.size = gJ at *
        have x0 := Ext.refl V7
        go_wp2_with fail
        go_ret
        exact ⟨rfl, hE⟩
    · generalize hD : lsC u0 u1 u2 u3 u4 r p = D at hd
      have hd2 : (D != 0) = true := by simpa using hd
      go_upto_region 14 with (first | (go_at_call 43; refine (implLeastStart_any u0 u1 u2 u3 u4 r p _).mono ?_; rintro e w2 ⟨rfl, x2⟩; rw [hD]; replace x0 := (by first | exact x0.trans x2 | exact (x0.alloc _).trans x2 | exact ((x0.alloc _).alloc _).trans x2 | exact (((x0.alloc _).alloc _).alloc _).trans x2); clear x2; (try clear xc xf xs); obtain ⟨xc, xf, xs⟩ := x0.cells) | (go_at_call 42; refine (specLeastStart_any u0 u1 u2 u3 u4 r p _).mono ?_; rintro e w2 ⟨rfl, x2⟩; rw [hD]; replace x0 := (by first | exact x0.trans x2 | exact (x0.alloc _).trans x2 | exact ((x0.alloc _).alloc _).trans x2 | exact (((x0.alloc _).alloc _).alloc _).trans x2); clear x2; (try clear xc xf xs); obtain ⟨xc, xf, xs⟩ := x0.cells))
      generalize hV : World.alloc _ _ = V3
      have hX := (show Ext _ V3 from (by rw [← hV]; exact (x0.alloc _)))
      have hlk : w2.heap.size < V3.heap.size := by rw [← hV]; simp; try omega
      have k0 : V3.cell? ⟨w2.heap.size, 0, none⟩ = some (.int .i64 s0) := by rw [← hV]; simp [go_sem]
      have k1 : V3.cell? ⟨w2.heap.size, 1, none⟩ = some (.int .i64 0) := by rw [← hV]; simp [go_sem]
      replace f0 := (hX.cells.1 _ _ hlf).trans f0
      replace f1 := (hX.cells.1 _ _ hlf).trans f1
      replace f2 := (hX.cells.1 _ _ hlf).trans f2
      replace f3 := (hX.cells.1 _ _ hlf).trans f3
      replace f4 := (hX.cells.1 _ _ hlf).trans f4
      replace hlf := Nat.lt_of_lt_of_le hlf hX.size
      replace b0 := (hX.cells.1 _ _ hlb).trans b0
      replace b1 := (hX.cells.1 _ _ hlb).trans b1
      replace hlb := Nat.lt_of_lt_of_le hlb hX.size
      replace g0 := (hX.cells.1 _ _ hlg).trans g0
      replace g1 := (hX.cells.1 _ _ hlg).trans g1
      replace g2 := (hX.cells.1 _ _ hlg).trans g2
      replace g3 := (hX.cells.1 _ _ hlg).trans g3
      replace g4 := (hX.cells.1 _ _ hlg).trans g4
      replace hlg := Nat.lt_of_lt_of_le hlg hX.size
      replace hE := hE.trans hX
      clear hV hX x0 xc xf xs
      generalize w2.heap.size = gC at *
      have x0 := Ext.refl V3
      go_upto_region 16 with (first | (go_at_call 47; refine (implSwingMany_any v0 v1 v2 v3 v4 X c s0 0 _).mono ?_; rintro e w2 ⟨rfl, x2⟩; rw [r1, r2]; replace x0 := (by first | exact x0.trans x2 | exact (x0.alloc _).trans x2 | exact ((x0.alloc _).alloc _).trans x2 | exact (((x0.alloc _).alloc _).alloc _).trans x2); clear x2; (try clear xc xf xs); obtain ⟨xc, xf, xs⟩ := x0.cells))
      generalize hV : World.alloc _ _ = V4
      have hX := (show Ext _ V4 from (by rw [← hV]; exact (x0.alloc _)))
      have hld : w2.heap.size < V4.heap.size := by rw [← hV]; simp; try omega
      have d0 : V4.cell? ⟨w2.heap.size, 0, none⟩ = some (.int .i64 (smE v0 v1 v2 v3 v4 X c s0 0)) := by rw [← hV]; simp [go_sem]
      have d1 : V4.cell? ⟨w2.heap.size, 1, none⟩ = some (.int .i64 c) := by rw [← hV]; simp [go_sem]
      replace f0 := (hX.cells.1 _ _ hlf).trans f0
      replace f1 := (hX.cells.1 _ _ hlf).trans f1
      replace f2 := (hX.cells.1 _ _ hlf).trans f2
      replace f3 := (hX.cells.1 _ _ hlf).trans f3
      replace f4 := (hX.cells.1 _ _ hlf).trans f4
      replace hlf := Nat.lt_of_lt_of_le hlf hX.size
      replace b0 := (hX.cells.1 _ _ hlb).trans b0
      replace b1 := (hX.cells.1 _ _ hlb).trans b1
      replace hlb := Nat.lt_of_lt_of_le hlb hX.size
      replace g0 := (hX.cells.1 _ _ hlg).trans g0
      replace g1 := (hX.cells.1 _ _ hlg).trans g1
      replace g2 := (hX.cells.1 _ _ hlg).trans g2
      replace g3 := (hX.cells.1 _ _ hlg).trans g3
      replace g4 := (hX.cells.1 _ _ hlg).trans g4
      replace hlg := Nat.lt_of_lt_of_le hlg hX.size
      replace k0 := (hX.cells.1 _ _ hlk).trans k0
      replace k1 := (hX.cells.1 _ _ hlk).trans k1
      replace hlk := Nat.lt_of_lt_of_le hlk hX.size
      replace hE := hE.trans hX
      clear hV hX x0 xc xf xs
      generalize w2.heap.size = gD at *
      have x0 := Ext.refl V4
      go_upto_region 17 with (first | (go_at_call 47; refine (implSwingMany_any v0 v1 v2 v3 v4 (X - 1) c s0 0 _).mono ?_; rintro e w2 ⟨rfl, x2⟩; rw [r3, hK]; replace x0 := (by first | exact x0.trans x2 | exact (x0.alloc _).trans x2 | exact ((x0.alloc _).alloc _).trans x2 | exact (((x0.alloc _).alloc _).alloc _).trans x2); clear x2; (try clear xc xf xs); obtain ⟨xc, xf, xs⟩ := x0.cells))
      generalize hV : World.alloc _ _ = V5
      have hX := (show Ext _ V5 from (by rw [← hV]; exact (x0.alloc _)))
      have hlh : w2.heap.size < V5.heap.size := by rw [← hV]; simp; try omega
      have h0 : V5.cell? ⟨w2.heap.size, 0, none⟩ = some (.int .i64 (smE v0 v1 v2 v3 v4 (X - 1) c s0 0)) := by rw [← hV]; simp [go_sem]
      have h1 : V5.cell? ⟨w2.heap.size, 1, none⟩ = some (.int .i64 K) := by rw [← hV]; simp [go_sem]
      replace f0 := (hX.cells.1 _ _ hlf).trans f0
      replace f1 := (hX.cells.1 _ _ hlf).trans f1
      replace f2 := (hX.cells.1 _ _ hlf).trans f2
      replace f3 := (hX.cells.1 _ _ hlf).trans f3
      replace f4 := (hX.cells.1 _ _ hlf).trans f4
      replace hlf := Nat.lt_of_lt_of_le hlf hX.size
      replace b0 := (hX.cells.1 _ _ hlb).trans b0
      replace b1 := (hX.cells.1 _ _ hlb).trans b1
      replace hlb := Nat.lt_of_lt_of_le hlb hX.size
      replace g0 := (hX.cells.1 _ _ hlg).trans g0
      replace g1 := (hX.cells.1 _ _ hlg).trans g1
      replace g2 := (hX.cells.1 _ _ hlg).trans g2
      replace g3 := (hX.cells.1 _ _ hlg).trans g3
      replace g4 := (hX.cells.1 _ _ hlg).trans g4
      replace hlg := Nat.lt_of_lt_of_le hlg hX.size
      replace k0 := (hX.cells.1 _ _ hlk).trans k0
      replace k1 := (hX.cells.1 _ _ hlk).trans k1
      replace hlk := Nat.lt_of_lt_of_le hlk hX.size
      replace d0 := (hX.cells.1 _ _ hld).trans d0
      replace d1 := (hX.cells.1 _ _ hld).trans d1
      replace hld := Nat.lt_of_lt_of_le hld hX.size
      replace hE := hE.trans hX
      clear hV hX x0 xc xf xs
      generalize w2.heap.size = gH at *
      have x0 := Ext.refl V5
      go_upto_region 19 with fail
      go_wp2_with fail
      go_ret
      exact ⟨rfl, hE⟩
  · generalize hC : ltC v0 v1 v2 v3 v4 c s0 s1 = C at hc
    have hc2 : (C == 0) = false := by simpa using hc
    go_upto_region 9 with (first | (go_at_call 45; refine (implLeastTorque_any v0 v1 v2 v3 v4 c s0 s1 _).mono ?_; rintro e w2 ⟨rfl, x2⟩; rw [hC]; replace x0 := (by first | exact x0.trans x2 | exact (x0.alloc _).trans x2 | exact ((x0.alloc _).alloc _).trans x2 | exact (((x0.alloc _).alloc _).alloc _).trans x2); clear x2; (try clear xc xf xs); obtain ⟨xc, xf, xs⟩ := x0.cells) | (go_at_call 44; refine (specLeastTorque_any v0 v1 v2 v3 v4 c s0 s1 _).mono ?_; rintro e w2 ⟨rfl, x2⟩; rw [hC]; replace x0 := (by first | exact x0.trans x2 | exact (x0.alloc _).trans x2 | exact ((x0.alloc _).alloc _).trans x2 | exact (((x0.alloc _).alloc _).alloc _).trans x2); clear x2; (try clear xc xf xs); obtain ⟨xc, xf, xs⟩ := x0.cells) | (go_at_call 54; refine (drawLeastStart_any a n cp _ (hB.to (hE.trans x0) (hE.trans x0).size) (by omega)).mono ?_; rintro e w2 ⟨⟨u0, u1, u2, u3, u4, r, p, rfl⟩, x2⟩; replace x0 := (by first | exact x0.trans x2 | exact (x0.alloc _).trans x2 | exact ((x0.alloc _).alloc _).trans x2 | exact (((x0.alloc _).alloc _).alloc _).trans x2); clear x2; (try clear xc xf xs); obtain ⟨xc, xf, xs⟩ := x0.cells))
    generalize hV : World.alloc _ _ = V2
    have hX := (show Ext _ V2 from (by rw [← hV]; exact (x0.alloc _)))
    have hlg : w2.heap.size < V2.heap.size := by rw [← hV]; simp; try omega
    have g0 : V2.cell? ⟨w2.heap.size, 0, none⟩ = some (.int .i64 u0) := by rw [← hV]; simp [go_sem]
    have g1 : V2.cell? ⟨w2.heap.size, 1, none⟩ = some (.int .i64 u1) := by rw [← hV]; simp [go_sem]
    have g2 : V2.cell? ⟨w2.heap.size, 2, none⟩ = some (.int .i64 u2) := by rw [← hV]; simp [go_sem]
    have g3 : V2.cell? ⟨w2.heap.size, 3, none⟩ = some (.int .i64 u3) := by rw [← hV]; simp [go_sem]
    have g4 : V2.cell? ⟨w2.heap.size, 4, none⟩ = some (.int .i64 u4) := by rw [← hV]; simp [go_sem]
    replace f0 := (hX.cells.1 _ _ hlf).trans f0
    replace f1 := (hX.cells.1 _ _ hlf).trans f1
    replace f2 := (hX.cells.1 _ _ hlf).trans f2
    replace f3 := (hX.cells.1 _ _ hlf).trans f3
    replace f4 := (hX.cells.1 _ _ hlf).trans f4
    replace hlf := Nat.lt_of_lt_of_le hlf hX.size
    replace b0 := (hX.cells.1 _ _ hlb).trans b0
    replace b1 := (hX.cells.1 _ _ hlb).trans b1
    replace hlb := Nat.lt_of_lt_of_le hlb hX.size
    replace hE := hE.trans hX
    clear hV hX x0 xc xf xs
    generalize w2.heap.size = gG at *
    have x0 := Ext.refl V2
    by_cases hd : lsC u0 u1 u2 u3 u4 r p = 0
    · obtain ⟨yb, y1, y2, y4⟩ := ls_ok hd
      generalize hY : lsR u0 u1 u2 u3 u4 r p = Y at yb y1 y2 y4
      have qy : IntKind.i64.wrap (Y - 1) = Y - 1 := IntWalk.i64_in _ (by omega)
      rcases y4 with ⟨y5, y3⟩ | ⟨y5, y3, y6⟩
      · subst y5
        have q0 : IntKind.i64.wrap (-1) = -1 := by decide
        go_upto_region 14 with (first | (go_at_call 43; refine (implLeastStart_any u0 u1 u2 u3 u4 r p _).mono ?_; rintro e w2 ⟨rfl, x2⟩; rw [hd, hY]; replace x0 := (by first | exact x0.trans x2 | exact (x0.alloc _).trans x2 | exact ((x0.alloc _).alloc _).trans x2 | exact (((x0.alloc _).alloc _).alloc _).trans x2); clear x2; (try clear xc xf xs); obtain ⟨xc, xf, xs⟩ := x0.cells) | (go_at_call 42; refine (specLeastStart_any u0 u1 u2 u3 u4 r p _).mono ?_; rintro e w2 ⟨rfl, x2⟩; rw [hd, hY]; replace x0 := (by first | exact x0.trans x2 | exact (x0.alloc _).trans x2 | exact ((x0.alloc _).alloc _).trans x2 | exact (((x0.alloc _).alloc _).alloc _).trans x2); clear x2; (try clear xc xf xs); obtain ⟨xc, xf, xs⟩ := x0.cells))
        generalize hV : World.alloc _ _ = V3
        have hX := (show Ext _ V3 from (by rw [← hV]; exact (x0.alloc _)))
        have hlk : w2.heap.size < V3.heap.size := by rw [← hV]; simp; try omega
        have k0 : V3.cell? ⟨w2.heap.size, 0, none⟩ = some (.int .i64 s0) := by rw [← hV]; simp [go_sem]
        have k1 : V3.cell? ⟨w2.heap.size, 1, none⟩ = some (.int .i64 0) := by rw [← hV]; simp [go_sem]
        replace f0 := (hX.cells.1 _ _ hlf).trans f0
        replace f1 := (hX.cells.1 _ _ hlf).trans f1
        replace f2 := (hX.cells.1 _ _ hlf).trans f2
        replace f3 := (hX.cells.1 _ _ hlf).trans f3
        replace f4 := (hX.cells.1 _ _ hlf).trans f4
        replace hlf := Nat.lt_of_lt_of_le hlf hX.size
        replace b0 := (hX.cells.1 _ _ hlb).trans b0
        replace b1 := (hX.cells.1 _ _ hlb).trans b1
        replace hlb := Nat.lt_of_lt_of_le hlb hX.size
        replace g0 := (hX.cells.1 _ _ hlg).trans g0
        replace g1 := (hX.cells.1 _ _ hlg).trans g1
        replace g2 := (hX.cells.1 _ _ hlg).trans g2
        replace g3 := (hX.cells.1 _ _ hlg).trans g3
        replace g4 := (hX.cells.1 _ _ hlg).trans g4
        replace hlg := Nat.lt_of_lt_of_le hlg hX.size
        replace hE := hE.trans hX
        clear hV hX x0 xc xf xs
        generalize w2.heap.size = gC at *
        have x0 := Ext.refl V3
        go_upto_region 19 with fail
        go_upto_region 22 with (first | (go_at_call 47; refine (implSwingMany_any u0 u1 u2 u3 u4 r p 0 0 _).mono ?_; rintro e w2 ⟨rfl, x2⟩; rw [y1, y2]; replace x0 := (by first | exact x0.trans x2 | exact (x0.alloc _).trans x2 | exact ((x0.alloc _).alloc _).trans x2 | exact (((x0.alloc _).alloc _).alloc _).trans x2); clear x2; (try clear xc xf xs); obtain ⟨xc, xf, xs⟩ := x0.cells))
        generalize hV : World.alloc _ _ = V6
        have hX := (show Ext _ V6 from (by rw [← hV]; exact (x0.alloc _)))
        have hli : w2.heap.size < V6.heap.size := by rw [← hV]; simp; try omega
        have i0 : V6.cell? ⟨w2.heap.size, 0, none⟩ = some (.int .i64 (smE u0 u1 u2 u3 u4 r p 0 0)) := by rw [← hV]; simp [go_sem]
        have i1 : V6.cell? ⟨w2.heap.size, 1, none⟩ = some (.int .i64 p) := by rw [← hV]; simp [go_sem]
        replace g0 := (hX.cells.1 _ _ hlg).trans g0
        replace g1 := (hX.cells.1 _ _ hlg).trans g1
        replace g2 := (hX.cells.1 _ _ hlg).trans g2
        replace g3 := (hX.cells.1 _ _ hlg).trans g3
        replace g4 := (hX.cells.1 _ _ hlg).trans g4
        replace hlg := Nat.lt_of_lt_of_le hlg hX.size
        replace hE := hE.trans hX
        clear hV hX x0 xc xf xs
        generalize w2.heap.size = gI at *
        have x0 := Ext.refl V6
        go_upto_region 23 with (first | (go_at_call 47; refine (implSwingMany_any u0 u1 u2 u3 u4 r p (-1) 0 _).mono ?_; rintro e w2 ⟨rfl, x2⟩; rw [y3]; replace x0 := (by first | exact x0.trans x2 | exact (x0.alloc _).trans x2 | exact ((x0.alloc _).alloc _).trans x2 | exact (((x0.alloc _).alloc _).alloc _).trans x2); clear x2; (try clear xc xf xs); obtain ⟨xc, xf, xs⟩ := x0.cells))
        generalize hV : World.alloc _ _ = V7
        have hX := (show Ext _ V7 from (by rw [← hV]; exact (x0.alloc _)))
        have hlj : w2.heap.size < V7.heap.size := by rw [← hV]; simp; try omega
        have j0 : V7.cell? ⟨w2.heap.size, 0, none⟩ = some (.int .i64 (smE u0 u1 u2 u3 u4 r p (-1) 0)) := by rw [← hV]; simp [go_sem]
        have j1 : V7.cell? ⟨w2.heap.size, 1, none⟩ = some (.int .i64 (smK u0 u1 u2 u3 u4 r p (-1) 0)) := by rw [← hV]; simp [go_sem]
        replace i0 := (hX.cells.1 _ _ hli).trans i0
        replace i1 := (hX.cells.1 _ _ hli).trans i1
        replace hli := Nat.lt_of_lt_of_le hli hX.size
        replace hE := hE.trans hX
        clear hV hX x0 xc xf xs
        generalize w2.heap.size = gJ at *
        have x0 := Ext.refl V7
        go_wp2_with fail
        go_ret
        exact ⟨rfl, hE⟩
      · have y7 : (Y == 0) = false := by simp; omega
        have y8 : ¬ Y = 0 := by omega
        generalize hJ : smK u0 u1 u2 u3 u4 r p (Y - 1) 0 = J at y6
        go_upto_region 14 with (first | (go_at_call 43; refine (implLeastStart_any u0 u1 u2 u3 u4 r p _).mono ?_; rintro e w2 ⟨rfl, x2⟩; rw [hd, hY]; replace x0 := (by first | exact x0.trans x2 | exact (x0.alloc _).trans x2 | exact ((x0.alloc _).alloc _).trans x2 | exact (((x0.alloc _).alloc _).alloc _).trans x2); clear x2; (try clear xc xf xs); obtain ⟨xc, xf, xs⟩ := x0.cells) | (go_at_call 42; refine (specLeastStart_any u0 u1 u2 u3 u4 r p _).mono ?_; rintro e w2 ⟨rfl, x2⟩; rw [hd, hY]; replace x0 := (by first | exact x0.trans x2 | exact (x0.alloc _).trans x2 | exact ((x0.alloc _).alloc _).trans x2 | exact (((x0.alloc _).alloc _).alloc _).trans x2); clear x2; (try clear xc xf xs); obtain ⟨xc, xf, xs⟩ := x0.cells))
        generalize hV : World.alloc _ _ = V3
        have hX := (show Ext _ V3 from (by rw [← hV]; exact (x0.alloc _)))
        have hlk : w2.heap.size < V3.heap.size := by rw [← hV]; simp; try omega
        have k0 : V3.cell? ⟨w2.heap.size, 0, none⟩ = some (.int .i64 s0) := by rw [← hV]; simp [go_sem]
        have k1 : V3.cell? ⟨w2.heap.size, 1, none⟩ = some (.int .i64 0) := by rw [← hV]; simp [go_sem]
        replace f0 := (hX.cells.1 _ _ hlf).trans f0
        replace f1 := (hX.cells.1 _ _ hlf).trans f1
        replace f2 := (hX.cells.1 _ _ hlf).trans f2
        replace f3 := (hX.cells.1 _ _ hlf).trans f3
        replace f4 := (hX.cells.1 _ _ hlf).trans f4
        replace hlf := Nat.lt_of_lt_of_le hlf hX.size
        replace b0 := (hX.cells.1 _ _ hlb).trans b0
        replace b1 := (hX.cells.1 _ _ hlb).trans b1
        replace hlb := Nat.lt_of_lt_of_le hlb hX.size
        replace g0 := (hX.cells.1 _ _ hlg).trans g0
        replace g1 := (hX.cells.1 _ _ hlg).trans g1
        replace g2 := (hX.cells.1 _ _ hlg).trans g2
        replace g3 := (hX.cells.1 _ _ hlg).trans g3
        replace g4 := (hX.cells.1 _ _ hlg).trans g4
        replace hlg := Nat.lt_of_lt_of_le hlg hX.size
        replace hE := hE.trans hX
        clear hV hX x0 xc xf xs
        generalize w2.heap.size = gC at *
        have x0 := Ext.refl V3
        go_upto_region 19 with fail
        go_upto_region 22 with (first | (go_at_call 47; refine (implSwingMany_any u0 u1 u2 u3 u4 r p Y 0 _).mono ?_; rintro e w2 ⟨rfl, x2⟩; rw [y1, y2]; replace x0 := (by first | exact x0.trans x2 | exact (x0.alloc _).trans x2 | exact ((x0.alloc _).alloc _).trans x2 | exact (((x0.alloc _).alloc _).alloc _).trans x2); clear x2; (try clear xc xf xs); obtain ⟨xc, xf, xs⟩ := x0.cells))
        generalize hV : World.alloc _ _ = V6
        have hX := (show Ext _ V6 from (by rw [← hV]; exact (x0.alloc _)))
        have hli : w2.heap.size < V6.heap.size := by rw [← hV]; simp; try omega
        have i0 : V6.cell? ⟨w2.heap.size, 0, none⟩ = some (.int .i64 (smE u0 u1 u2 u3 u4 r p Y 0)) := by rw [← hV]; simp [go_sem]
        have i1 : V6.cell? ⟨w2.heap.size, 1, none⟩ = some (.int .i64 p) := by rw [← hV]; simp [go_sem]
        replace g0 := (hX.cells.1 _ _ hlg).trans g0
        replace g1 := (hX.cells.1 _ _ hlg).trans g1
        replace g2 := (hX.cells.1 _ _ hlg).trans g2
        replace g3 := (hX.cells.1 _ _ hlg).trans g3
        replace g4 := (hX.cells.1 _ _ hlg).trans g4
        replace hlg := Nat.lt_of_lt_of_le hlg hX.size
        replace hE := hE.trans hX
        clear hV hX x0 xc xf xs
        generalize w2.heap.size = gI at *
        have x0 := Ext.refl V6
        go_upto_region 23 with (first | (go_at_call 47; refine (implSwingMany_any u0 u1 u2 u3 u4 r p (Y - 1) 0 _).mono ?_; rintro e w2 ⟨rfl, x2⟩; rw [y3, hJ]; replace x0 := (by first | exact x0.trans x2 | exact (x0.alloc _).trans x2 | exact ((x0.alloc _).alloc _).trans x2 | exact (((x0.alloc _).alloc _).alloc _).trans x2); clear x2; (try clear xc xf xs); obtain ⟨xc, xf, xs⟩ := x0.cells))
        generalize hV : World.alloc _ _ = V7
        have hX := (show Ext _ V7 from (by rw [← hV]; exact (x0.alloc _)))
        have hlj : w2.heap.size < V7.heap.size := by rw [← hV]; simp; try omega
        have j0 : V7.cell? ⟨w2.heap.size, 0, none⟩ = some (.int .i64 (smE u0 u1 u2 u3 u4 r p (Y - 1) 0)) := by rw [← hV]; simp [go_sem]
        have j1 : V7.cell? ⟨w2.heap.size, 1, none⟩ = some (.int .i64 J) := by rw [← hV]; simp [go_sem]
        replace i0 := (hX.cells.1 _ _ hli).trans i0
        replace i1 := (hX.cells.1 _ _ hli).trans i1
        replace hli := Nat.lt_of_lt_of_le hli hX.size
        replace hE := hE.trans hX
        clear hV hX x0 xc xf xs
        generalize w2.heap.size = gJ at *
        have x0 := Ext.refl V7
        go_wp2_with fail
        go_ret
        exact ⟨rfl, hE⟩
    · generalize hD : lsC u0 u1 u2 u3 u4 r p = D at hd
      have hd2 : (D != 0) = true := by simpa using hd
      go_upto_region 14 with (first | (go_at_call 43; refine (implLeastStart_any u0 u1 u2 u3 u4 r p _).mono ?_; rintro e w2 ⟨rfl, x2⟩; rw [hD]; replace x0 := (by first | exact x0.trans x2 | exact (x0.alloc _).trans x2 | exact ((x0.alloc _).alloc _).trans x2 | exact (((x0.alloc _).alloc _).alloc _).trans x2); clear x2; (try clear xc xf xs); obtain ⟨xc, xf, xs⟩ := x0.cells) | (go_at_call 42; refine (specLeastStart_any u0 u1 u2 u3 u4 r p _).mono ?_; rintro e w2 ⟨rfl, x2⟩; rw [hD]; replace x0 := (by first | exact x0.trans x2 | exact (x0.alloc _).trans x2 | exact ((x0.alloc _).alloc _).trans x2 | exact (((x0.alloc _).alloc _).alloc _).trans x2); clear x2; (try clear xc xf xs); obtain ⟨xc, xf, xs⟩ := x0.cells))
      generalize hV : World.alloc _ _ = V3
      have hX := (show Ext _ V3 from (by rw [← hV]; exact (x0.alloc _)))
      have hlk : w2.heap.size < V3.heap.size := by rw [← hV]; simp; try omega
      have k0 : V3.cell? ⟨w2.heap.size, 0, none⟩ = some (.int .i64 s0) := by rw [← hV]; simp [go_sem]
      have k1 : V3.cell? ⟨w2.heap.size, 1, none⟩ = some (.int .i64 0) := by rw [← hV]; simp [go_sem]
      replace f0 := (hX.cells.1 _ _ hlf).trans f0
      replace f1 := (hX.cells.1 _ _ hlf).trans f1
      replace f2 := (hX.cells.1 _ _ hlf).trans f2
      replace f3 := (hX.cells.1 _ _ hlf).trans f3
      replace f4 := (hX.cells.1 _ _ hlf).trans f4
      replace hlf := Nat.lt_of_lt_of_le hlf hX.size
      replace b0 := (hX.cells.1 _ _ hlb).trans b0
      replace b1 := (hX.cells.1 _ _ hlb).trans b1
      replace hlb := Nat.lt_of_lt_of_le hlb hX.size
      replace g0 := (hX.cells.1 _ _ hlg).trans g0
      replace g1 := (hX.cells.1 _ _ hlg).trans g1
      replace g2 := (hX.cells.1 _ _ hlg).trans g2
      replace g3 := (hX.cells.1 _ _ hlg).trans g3
      replace g4 := (hX.cells.1 _ _ hlg).trans g4
      replace hlg := Nat.lt_of_lt_of_le hlg hX.size
      replace hE := hE.trans hX
      clear hV hX x0 xc xf xs
      generalize w2.heap.size = gC at *
      have x0 := Ext.refl V3
      go_upto_region 19 with fail
      go_wp2_with fail
      go_ret
      exact ⟨rfl, hE⟩
end Go.Proofs.Ytehebhphlaghfaa
