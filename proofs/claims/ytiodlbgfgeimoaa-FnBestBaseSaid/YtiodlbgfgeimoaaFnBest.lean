/-
  The walk of the law FnBestBase.
-/
import Derived.Test.YtiodlbgfgeimoaaBoth
import Derived.Test.YtiodlbgfgeimoaaSegP
import Derived.Test.YtiodlbgfgeimoaaDrawG
import Derived.Test.YtiodlbgfgeimoaaSize
import Derived.Test.YtiodlbgfgeimoaaDice
import Derived.Deep.DeepCutAuto
namespace Go.Proofs.Ytiodlbgfgeimoaa
open Go.RowKit
set_option linter.unusedSimpArgs false
set_option linter.unusedVariables false

set_option maxRecDepth 100000 in
set_option maxHeartbeats 2000000 in
theorem fnBest_walk (a : Option Addr) (n cp : Nat) (w : World) (hB : RowB w w.heap.size a n) :
    Calls Try.prog 16 #[.slice a n cp] w fun e w' => e = .returned (.bool true) ∧ Ext w w' := by
  by_cases hbig : 4096 < n
  · have t1 : decide (4096 < n) = true := by simpa using hbig
    go_enter Try.func16, Try.ntmps16
    go_wp2_with (first | (go_at_call 50; refine (f6big_any a n cp _).mono ?_; rintro e w1 ⟨rfl, rfl⟩; rw [t1]))
    go_ret
    exact ⟨rfl, Ext.refl _⟩
  have t1 : decide (4096 < n) = false := by simpa using hbig
  go_enter Try.func16, Try.ntmps16
  go_upto_region 4 with (first | (go_at_call 50; refine (f6big_any a n cp _).mono ?_; rintro e w1 ⟨rfl, rfl⟩; rw [t1]) | (go_at_call 54; refine (drawBest_any a n cp _ hB (by omega)).mono ?_; rintro e w1 ⟨⟨v0, v1, v2, v3, v, zs, rfl, hP, hl⟩, x2⟩))
  obtain ⟨sa, Ln, sc, rfl, hL, hr⟩ := hP.slice
  have hL1 : Ln ≤ 100 := by omega
  clear hP
  generalize hV : World.alloc _ _ = V0
  have hX : Ext w1 V0 := by rw [← hV]; exact (Ext.refl _).alloc _
  have hlf : w1.heap.size < V0.heap.size := by rw [← hV]; simp
  have f0 : V0.cell? ⟨w1.heap.size, 0, none⟩ = some (.int .i64 v0) := by rw [← hV]; simp [go_sem]
  have f1 : V0.cell? ⟨w1.heap.size, 1, none⟩ = some (.int .i64 v1) := by rw [← hV]; simp [go_sem]
  have f2 : V0.cell? ⟨w1.heap.size, 2, none⟩ = some (.int .i64 v2) := by rw [← hV]; simp [go_sem]
  have f3 : V0.cell? ⟨w1.heap.size, 3, none⟩ = some (.int .i64 v3) := by rw [← hV]; simp [go_sem]
  replace hr := hr.ext hX
  have hE : Ext w V0 := x2.trans hX
  clear hV hX x2
  generalize w1.heap.size = gA at *
  have hbb := bb_cases v0 v1 v2 v3 zs
  generalize hBR : bbR v0 v1 v2 v3 zs = BR at *
  generalize hBC : bbC v0 v1 v2 v3 zs = BC at *
  rcases hbb with hc | ⟨hc, hb, h0, hall⟩
  · have hc2 : (BC != 0) = true := by simpa using hc
    go_upto_region 5 with (first | (go_at_call 49; ((with_reducible refine (implBestBase_any v0 v1 v2 v3 sa Ln sc zs _ hr hL (by omega)).mono ?_); rintro e wk1 ⟨rfl, x2⟩; rw [hBR, hBC]; skip)))
    have hX := x2
    replace f0 := (hX.cells.1 _ _ hlf).trans f0
    replace f1 := (hX.cells.1 _ _ hlf).trans f1
    replace f2 := (hX.cells.1 _ _ hlf).trans f2
    replace f3 := (hX.cells.1 _ _ hlf).trans f3
    replace hlf := Nat.lt_of_lt_of_le hlf hX.size
    replace hr := hr.ext hX
    replace hE := hE.trans hX
    clear hX x2
    go_upto_region 6 with (first | (go_at_call 48; ((with_reducible refine (specBestBase_any v0 v1 v2 v3 sa Ln sc zs _ hr hL (by omega)).mono ?_); rintro e wk2 ⟨rfl, x2⟩; rw [hBR, hBC]; skip)))
    have hX := x2
    replace f0 := (hX.cells.1 _ _ hlf).trans f0
    replace f1 := (hX.cells.1 _ _ hlf).trans f1
    replace f2 := (hX.cells.1 _ _ hlf).trans f2
    replace f3 := (hX.cells.1 _ _ hlf).trans f3
    replace hlf := Nat.lt_of_lt_of_le hlf hX.size
    replace hr := hr.ext hX
    replace hE := hE.trans hX
    clear hX x2
    go_wp2_with fail
    go_ret
    exact ⟨rfl, hE⟩
  · replace hall := Lib.hid hall
    subst hc
    go_upto_region 5 with (first | (go_at_call 49; ((with_reducible refine (implBestBase_any v0 v1 v2 v3 sa Ln sc zs _ hr hL (by omega)).mono ?_); rintro e wk1 ⟨rfl, x2⟩; rw [hBR, hBC]; skip)))
    have hX := x2
    replace f0 := (hX.cells.1 _ _ hlf).trans f0
    replace f1 := (hX.cells.1 _ _ hlf).trans f1
    replace f2 := (hX.cells.1 _ _ hlf).trans f2
    replace f3 := (hX.cells.1 _ _ hlf).trans f3
    replace hlf := Nat.lt_of_lt_of_le hlf hX.size
    replace hr := hr.ext hX
    replace hE := hE.trans hX
    clear hX x2
    go_upto_region 6 with (first | (go_at_call 48; ((with_reducible refine (specBestBase_any v0 v1 v2 v3 sa Ln sc zs _ hr hL (by omega)).mono ?_); rintro e wk2 ⟨rfl, x2⟩; rw [hBR, hBC]; skip)))
    have hX := x2
    replace f0 := (hX.cells.1 _ _ hlf).trans f0
    replace f1 := (hX.cells.1 _ _ hlf).trans f1
    replace f2 := (hX.cells.1 _ _ hlf).trans f2
    replace f3 := (hX.cells.1 _ _ hlf).trans f3
    replace hlf := Nat.lt_of_lt_of_le hlf hX.size
    replace hr := hr.ext hX
    replace hE := hE.trans hX
    clear hX x2
    clear hBR hBC
    have q1 : IntKind.i64.wrap (BR - 1) = BR - 1 := IntWalk.i64_in _ (by omega)
    go_upto_region 11 with fail
    generalize hV : World.alloc _ _ = V8
    have hX : Ext wk2 V8 := by rw [← hV]; exact (Ext.refl _).alloc _
    have hlx : wk2.heap.size < V8.heap.size := by rw [← hV]; simp
    have hwx : w.heap.size ≤ wk2.heap.size := hE.size
    have hxA : wk2.heap.size ≠ gA := by omega
    have x0 : V8.cell? ⟨wk2.heap.size, 0, none⟩ = some (.int .i64 v0) := by rw [← hV]; simp [go_sem]
    have x1 : V8.cell? ⟨wk2.heap.size, 1, none⟩ = some (.int .i64 v1) := by rw [← hV]; simp [go_sem]
    have x2 : V8.cell? ⟨wk2.heap.size, 2, none⟩ = some (.int .i64 v2) := by rw [← hV]; simp [go_sem]
    have x3 : V8.cell? ⟨wk2.heap.size, 3, none⟩ = some (.int .i64 v3) := by rw [← hV]; simp [go_sem]
    have xz : V8.frozen? ⟨wk2.heap.size, 0, none⟩ = false := by rw [← hV]; simp
    have hE0 := hE
    have hr0 := hr
    have hlf0 := hlf
    have g0 := f0
    have g1 := f1
    have g2 := f2
    have g3 := f3
    replace f0 := (hX.cells.1 _ _ hlf).trans f0
    replace f1 := (hX.cells.1 _ _ hlf).trans f1
    replace f2 := (hX.cells.1 _ _ hlf).trans f2
    replace f3 := (hX.cells.1 _ _ hlf).trans f3
    replace hlf := Nat.lt_of_lt_of_le hlf hX.size
    replace hE := hE.trans hX
    clear hV
    generalize hgX : wk2.heap.size = gX at *
    go_upto_region 12 with fail
    generalize hV : World.setCell _ _ _ = V9
    have nx0 : V9.cell? ⟨gX, 0, none⟩ = some (.int .i64 BR) := by rw [← hV]; simp [go_sem, x0]
    have nx1 : V9.cell? ⟨gX, 1, none⟩ = some (.int .i64 v1) := by rw [← hV]; simp [go_sem, x1]
    have nx2 : V9.cell? ⟨gX, 2, none⟩ = some (.int .i64 v2) := by rw [← hV]; simp [go_sem, x2]
    have nx3 : V9.cell? ⟨gX, 3, none⟩ = some (.int .i64 v3) := by rw [← hV]; simp [go_sem, x3]
    have hX9 : Ext wk2 V9 := by rw [← hV]; exact hX.setCell (Nat.le_of_eq hgX) _
    replace hlf0 : gA < wk2.heap.size := by omega
    replace f0 := (hX9.cells.1 _ _ hlf0).trans g0
    replace f1 := (hX9.cells.1 _ _ hlf0).trans g1
    replace f2 := (hX9.cells.1 _ _ hlf0).trans g2
    replace f3 := (hX9.cells.1 _ _ hlf0).trans g3
    replace hlf := Nat.lt_of_lt_of_le hlf0 hX9.size
    replace hr := hr0.ext hX9
    replace hE := hE0.trans hX9
    clear hV hX hX9 hE0 hr0 hlf0 g0 g1 g2 g3 x0 x1 x2 x3 xz hgX hlx hxA
    go_upto_region 13 with (first | (go_at_call 38; ((with_reducible refine (implDriftSum_any BR v1 v2 v3 sa Ln sc zs _ hr hL (by omega)).mono ?_); rintro e wk3 ⟨rfl, x2⟩; rw [h0]; skip)))
    have hX := x2
    replace f0 := (hX.cells.1 _ _ hlf).trans f0
    replace f1 := (hX.cells.1 _ _ hlf).trans f1
    replace f2 := (hX.cells.1 _ _ hlf).trans f2
    replace f3 := (hX.cells.1 _ _ hlf).trans f3
    replace hlf := Nat.lt_of_lt_of_le hlf hX.size
    replace hr := hr.ext hX
    replace hE := hE.trans hX
    clear hX x2
    have hdA := ds_bd BR v1 v2 v3 zs
    generalize dsR BR v1 v2 v3 zs = DA at *
    clear nx0 nx1 nx2 nx3 h0
    have hBc : RowB wk3 wk3.heap.size a n := hB.to hE hE.size
    go_upto_region 14 with (first | (go_at_call 55; refine (f6roll_any a n cp 1202 _ hBc (by omega)).mono ?_; rintro e wd ⟨rfl, hS, xd⟩))
    generalize hg : wk3.heap.size = g at *
    have hwg : w.heap.size ≤ g := by rw [← hg]; exact hE.size
    have hle : wk3.heap.size ≤ g := Nat.le_of_eq hg
    have hAg : gA < g := by omega
    replace hlf : gA < wk3.heap.size := by omega
    replace hg := Lib.hid hg
    clear hBc
    go_wp2_with fail
    go_loopw [13] (fun kk wr => ∃ k : Nat, kk = .int .i64 k ∧ k ≤ 3 ∧ Src wr g a n cp k ∧ Ext wk3 wr) (fun kk _ => 3 - (intOf kk).toNat)
    case atStart => exact ⟨0, rfl, by omega, hS, xd⟩
    case round =>
      clear hS xd
      obtain ⟨k, rfl, hk, hS, xw⟩ := hrel
      by_cases h3 : k < 3
      · have t3 : (k : Int) < 3 := by omega
        have q3 : IntKind.i64.wrap ((k : Int) + 1) = ((k + 1 : Nat) : Int) := by rw [IntWalk.i64_in _ (by omega)]; omega
        have y0 := (xw.cells.1 _ _ hlf).trans f0
        have y1 := (xw.cells.1 _ _ hlf).trans f1
        have y2 := (xw.cells.1 _ _ hlf).trans f2
        have y3 := (xw.cells.1 _ _ hlf).trans f3
        have hrw := hr.ext xw
        have hBg : RowB wr g a n := hB.to (hE.trans xw) hwg
        have hgl := hS.lt
        have hww := (hE.trans xw).size
        go_upto_region 18 with fail
        generalize hU : World.alloc _ _ = U
        have xU : Ext wr U := by rw [← hU]; exact (Ext.refl _).alloc _
        have hbU : wr.heap.size < U.heap.size := by rw [← hU]; simp
        have o0 : U.cell? ⟨wr.heap.size, 0, none⟩ = some (.int .i64 v0) := by rw [← hU]; simp [go_sem]
        have o1 : U.cell? ⟨wr.heap.size, 1, none⟩ = some (.int .i64 v1) := by rw [← hU]; simp [go_sem]
        have o2 : U.cell? ⟨wr.heap.size, 2, none⟩ = some (.int .i64 v2) := by rw [← hU]; simp [go_sem]
        have o3 : U.cell? ⟨wr.heap.size, 3, none⟩ = some (.int .i64 v3) := by rw [← hU]; simp [go_sem]
        have oz : U.frozen? ⟨wr.heap.size, 0, none⟩ = false := by rw [← hU]; simp
        have hSU := hS.ext xU
        have hBU := hBg.ext xU
        have hcw := xw.size
        have hcb : wk3.heap.size ≤ wr.heap.size := xw.size
        have hbg : wr.heap.size ≠ g := by omega
        have hbn : some wr.heap.size ≠ some g := fun e => hbg (by injection e)
        clear hU
        generalize hb9 : wr.heap.size = b at *
        go_upto_region 19 with (first | (go_at_call 56; refine (below_any g n cp k 2001 a _ hSU hBU (by omega) (by omega) (by omega)).mono ?_; rintro e wq ⟨y, rfl, hy, hS2, hWc⟩; replace oz := (hWc.free hbU hbn).trans oz; replace o0 := (hWc.cell hbU hbn).trans o0; replace o1 := (hWc.cell hbU hbn).trans o1; replace o2 := (hWc.cell hbU hbn).trans o2; replace o3 := (hWc.cell hbU hbn).trans o3; have q4 : IntKind.i64.wrap (BR + y) = BR + y := IntWalk.i64_in _ (by omega); have q5 : IntKind.i64.wrap (BR + y - 1000) = BR + y - 1000 := IntWalk.i64_in _ (by omega)))
        have hX : Ext wk3 wq := Wrote.ext (xw.trans xU) hWc (fun k hk => by injection hk; omega)
        clear hWc hSU hBU hS xU hy
        by_cases k0 : k = 0
        · have k1 : ((k : Int) == 0) = true := by simp; omega
          replace k0 := Lib.hid k0
          go_upto_region 21 with fail
          generalize hU : World.setCell _ _ _ = U2
          generalize hT : BR - 1 = T at *
          have n0 : U2.cell? ⟨b, 0, none⟩ = some (.int .i64 T) := by rw [← hU]; simp [go_sem, o0]
          have n1 : U2.cell? ⟨b, 1, none⟩ = some (.int .i64 v1) := by rw [← hU]; simp [go_sem, o1]
          have n2 : U2.cell? ⟨b, 2, none⟩ = some (.int .i64 v2) := by rw [← hU]; simp [go_sem, o2]
          have n3 : U2.cell? ⟨b, 3, none⟩ = some (.int .i64 v3) := by rw [← hU]; simp [go_sem, o3]
          have hX2 : Ext wk3 U2 := by rw [← hU]; first | exact (hX.setCell (by simpa using hcb) _).setCell (by simpa using hcb) _ | exact hX.setCell (by simpa using hcb) _
          have hS3 : Src U2 g a n cp (k + 1) := by rw [← hU]; first | exact (hS2.other (by simpa using hbg) _).other (by simpa using hbg) _ | exact hS2.other (by simpa using hbg) _
          replace hT := Lib.hid hT
          clear hU o0 o1 o2 o3 oz hX hS2
          have hr2 := hr.ext hX2
          clear y0
          clear y1
          clear y2
          clear y3
          have hdT := ds_bd T v1 v2 v3 zs
          have hT9 := hall.out T
          generalize hD : dsR T v1 v2 v3 zs = DT at *
          generalize hC : dsC T v1 v2 v3 zs = CT at *
          have hbU2 : b < U2.heap.size := World.block_lt_of_cell? _ _ n0
          go_upto_region 22 with (first | (go_at_call 38; refine (implDriftSum_any T v1 v2 v3 sa Ln sc zs _ hr2 hL (by omega)).mono ?_; rintro e wz ⟨rfl, xz⟩; rw [hD, hC]; replace n0 := (xz.cells.1 _ _ hbU2).trans n0))
          clear hD hC hr2 n1 n2 n3
          rcases hT9 with hT9 | ⟨c1, c2⟩
          · have c1 : (CT == 0) = false := by simpa using hT9
            go_wp2_with (first | (go_at_call 57; refine (f6size_any _ _ (by omega)).mono ?_; rintro e wy ⟨rfl, rfl⟩))
            go_roundw
            case rel => exact ⟨k + 1, by first | rfl | (congr 1), by omega, hS3.ext xz, hX2.trans xz⟩
            case measure => simp [intOf]; omega
          · subst c1
            have d1 : ¬ (DT.natAbs : Int) < (DA.natAbs : Int) := by omega
            skip
            by_cases d2 : (DT.natAbs : Int) = (DA.natAbs : Int)
            · have d3 : ¬ T < BR := fun h => c2 (.inr ⟨by omega, h⟩)
              have d4 : ((DT.natAbs : Int) == (DA.natAbs : Int)) = true := by simpa using d2
              replace d2 := Lib.hid d2
              clear c2
              go_wp2_with (first | (go_at_call 57; refine (f6size_any _ _ (by omega)).mono ?_; rintro e wy ⟨rfl, rfl⟩))
              go_roundw
              case rel => exact ⟨k + 1, by first | rfl | (congr 1), by omega, hS3.ext xz, hX2.trans xz⟩
              case measure => simp [intOf]; omega
            · have d4 : ((DT.natAbs : Int) == (DA.natAbs : Int)) = false := by simpa using d2
              clear c2
              go_wp2_with (first | (go_at_call 57; refine (f6size_any _ _ (by omega)).mono ?_; rintro e wy ⟨rfl, rfl⟩))
              go_roundw
              case rel => exact ⟨k + 1, by first | rfl | (congr 1), by omega, hS3.ext xz, hX2.trans xz⟩
              case measure => simp [intOf]; omega
        · have k1 : ((k : Int) == 0) = false := by simp; omega
          go_upto_region 21 with fail
          generalize hU : World.setCell _ _ _ = U2
          generalize hT : BR + y - 1000 = T at *
          have n0 : U2.cell? ⟨b, 0, none⟩ = some (.int .i64 T) := by rw [← hU]; simp [go_sem, o0]
          have n1 : U2.cell? ⟨b, 1, none⟩ = some (.int .i64 v1) := by rw [← hU]; simp [go_sem, o1]
          have n2 : U2.cell? ⟨b, 2, none⟩ = some (.int .i64 v2) := by rw [← hU]; simp [go_sem, o2]
          have n3 : U2.cell? ⟨b, 3, none⟩ = some (.int .i64 v3) := by rw [← hU]; simp [go_sem, o3]
          have hX2 : Ext wk3 U2 := by rw [← hU]; first | exact (hX.setCell (by simpa using hcb) _).setCell (by simpa using hcb) _ | exact hX.setCell (by simpa using hcb) _
          have hS3 : Src U2 g a n cp (k + 1) := by rw [← hU]; first | exact (hS2.other (by simpa using hbg) _).other (by simpa using hbg) _ | exact hS2.other (by simpa using hbg) _
          replace hT := Lib.hid hT
          clear hU o0 o1 o2 o3 oz hX hS2
          have hr2 := hr.ext hX2
          clear y0
          clear y1
          clear y2
          clear y3
          have hdT := ds_bd T v1 v2 v3 zs
          have hT9 := hall.out T
          generalize hD : dsR T v1 v2 v3 zs = DT at *
          generalize hC : dsC T v1 v2 v3 zs = CT at *
          have hbU2 : b < U2.heap.size := World.block_lt_of_cell? _ _ n0
          go_upto_region 22 with (first | (go_at_call 38; refine (implDriftSum_any T v1 v2 v3 sa Ln sc zs _ hr2 hL (by omega)).mono ?_; rintro e wz ⟨rfl, xz⟩; rw [hD, hC]; replace n0 := (xz.cells.1 _ _ hbU2).trans n0))
          clear hD hC hr2 n1 n2 n3
          rcases hT9 with hT9 | ⟨c1, c2⟩
          · have c1 : (CT == 0) = false := by simpa using hT9
            go_wp2_with (first | (go_at_call 57; refine (f6size_any _ _ (by omega)).mono ?_; rintro e wy ⟨rfl, rfl⟩))
            go_roundw
            case rel => exact ⟨k + 1, by first | rfl | (congr 1), by omega, hS3.ext xz, hX2.trans xz⟩
            case measure => simp [intOf]; omega
          · subst c1
            have d1 : ¬ (DT.natAbs : Int) < (DA.natAbs : Int) := by omega
            skip
            by_cases d2 : (DT.natAbs : Int) = (DA.natAbs : Int)
            · have d3 : ¬ T < BR := fun h => c2 (.inr ⟨by omega, h⟩)
              have d4 : ((DT.natAbs : Int) == (DA.natAbs : Int)) = true := by simpa using d2
              replace d2 := Lib.hid d2
              clear c2
              go_wp2_with (first | (go_at_call 57; refine (f6size_any _ _ (by omega)).mono ?_; rintro e wy ⟨rfl, rfl⟩))
              go_roundw
              case rel => exact ⟨k + 1, by first | rfl | (congr 1), by omega, hS3.ext xz, hX2.trans xz⟩
              case measure => simp [intOf]; omega
            · have d4 : ((DT.natAbs : Int) == (DA.natAbs : Int)) = false := by simpa using d2
              clear c2
              go_wp2_with (first | (go_at_call 57; refine (f6size_any _ _ (by omega)).mono ?_; rintro e wy ⟨rfl, rfl⟩))
              go_roundw
              case rel => exact ⟨k + 1, by first | rfl | (congr 1), by omega, hS3.ext xz, hX2.trans xz⟩
              case measure => simp [intOf]; omega
      · have t3 : ¬ (k : Int) < 3 := by omega
        go_wp2_with fail
        go_ret
        exact ⟨rfl, hE.trans xw⟩
end Go.Proofs.Ytiodlbgfgeimoaa
