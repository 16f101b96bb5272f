/-
  The walk of the law FnMergedSegments.
-/
import Derived.Test.YtiodlbgfgeimoaaDrawG
import Derived.Test.YtiodlbgfgeimoaaSegP
import Derived.Test.YtiodlbgfgeimoaaMerge
import Derived.Test.YtiodlbgfgeimoaaDrift
import Derived.Test.YtiodlbgfgeimoaaDice
import Derived.Deep.DeepCutAuto
namespace Go.Proofs.Ytiodlbgfgeimoaa
open Go.RowKit
set_option linter.unusedSimpArgs false
set_option linter.unusedVariables false

set_option maxRecDepth 100000 in
set_option maxHeartbeats 2000000 in
theorem fnMerged_walk (a : Option Addr) (n cp : Nat) (w : World) (hB : RowB w w.heap.size a n) :
    Calls Try.prog 15 #[.slice a n cp] w fun e w' => e = .returned (.bool true) ∧ Ext w w' := by
  by_cases hbig : 4096 < n
  · have t1 : decide (4096 < n) = true := by simpa using hbig
    go_enter Try.func15, Try.ntmps15
    go_wp2_with (first | (go_at_call 50; refine (f6big_any a n cp _).mono ?_; rintro e w1 ⟨rfl, rfl⟩; rw [t1]))
    go_ret
    exact ⟨rfl, Ext.refl _⟩
  have t1 : decide (4096 < n) = false := by simpa using hbig
  go_enter Try.func15, Try.ntmps15
  go_upto_region 4 with (first | (go_at_call 50; refine (f6big_any a n cp _).mono ?_; rintro e w1 ⟨rfl, rfl⟩; rw [t1]) | (go_at_call 53; refine (drawMerge_any a n cp _ hB (by omega)).mono ?_; rintro e w1 ⟨⟨sa, Ln, sc, zs, rfl, hL, hL1, hr⟩, hE⟩))
  have hle := mgR_len zs Ln hL
  cases hv : vSegs zs
  · have hMC : mgC zs = 1 := by simp [mgC, hv]
    clear hv
    generalize hTN : mtN zs = TN at *
    generalize hTD : mtD zs = TD at *
    generalize hTC : mtC zs = TC at *
    go_upto_region 5 with (first | (go_at_call 34; ((with_reducible refine (implMergeSegments_any sa Ln sc zs _ hr hL (by omega)).mono ?_); rintro e wk1 ⟨v, rfl, hP, x2⟩; rw [hMC]; skip)))
    obtain ⟨va, vc, rfl⟩ := hP.shape
    have hX := x2
    replace hr := hr.ext hX
    replace hE := hE.trans hX
    clear hX x2
    go_upto_region 6 with (first | (go_at_call 33; ((with_reducible refine (specMergeSegments_any sa Ln sc zs _ hr hL (by omega)).mono ?_); rintro e wk2 ⟨v2, rfl, hP2, x2⟩; rw [hMC]; skip)))
    obtain ⟨vb, vd, rfl⟩ := hP2.shape
    clear hP2
    have hX := x2
    replace hr := hr.ext hX
    replace hP := hP.ext hX
    replace hE := hE.trans hX
    clear hX x2
    go_upto_region 7 with (first | (go_at_call 42; ((with_reducible refine (implMeanTemp_any sa Ln sc zs _ hr hL (by omega)).mono ?_); rintro e wk3 ⟨rfl, x2⟩; rw [hTN, hTD, hTC]; skip)))
    generalize hV : World.alloc _ _ = V3
    have hX : Ext wk2 V3 := by rw [← hV]; exact x2.alloc _
    have hlp : wk3.heap.size < V3.heap.size := by rw [← hV]; simp
    have p0 : V3.cell? ⟨wk3.heap.size, 0, none⟩ = some (.int .i64 TN) := by rw [← hV]; simp [go_sem]
    have p1 : V3.cell? ⟨wk3.heap.size, 1, none⟩ = some (.int .i64 TD) := by rw [← hV]; simp [go_sem]
    replace hr := hr.ext hX
    replace hP := hP.ext hX
    replace hE := hE.trans hX
    clear hX x2 hV
    generalize wk3.heap.size = gP at *
    go_upto_region 8 with (first | (go_at_call 41; ((with_reducible refine (specMeanTemp_any sa Ln sc zs _ hr hL (by omega)).mono ?_); rintro e wk4 ⟨rfl, x2⟩; rw [hTN, hTD, hTC]; skip)))
    generalize hV : World.alloc _ _ = V4
    have hX : Ext V3 V4 := by rw [← hV]; exact x2.alloc _
    have hlq : wk4.heap.size < V4.heap.size := by rw [← hV]; simp
    have q0 : V4.cell? ⟨wk4.heap.size, 0, none⟩ = some (.int .i64 TN) := by rw [← hV]; simp [go_sem]
    have q1 : V4.cell? ⟨wk4.heap.size, 1, none⟩ = some (.int .i64 TD) := by rw [← hV]; simp [go_sem]
    replace p0 := (hX.cells.1 _ _ hlp).trans p0
    replace p1 := (hX.cells.1 _ _ hlp).trans p1
    replace hlp := Nat.lt_of_lt_of_le hlp hX.size
    replace hr := hr.ext hX
    replace hP := hP.ext hX
    replace hE := hE.trans hX
    clear hX x2 hV
    generalize wk4.heap.size = gQ at *
    go_wp2_with fail
    go_ret
    exact ⟨rfl, hE⟩
  · have hMC : mgC zs = 0 := by simp [mgC, hv]
    have hRt : vRate 17 3 2 150 = true := by decide
    obtain ⟨s1, s2, s3, s4, s5, s6, s7⟩ := mg_same hv 17 3 2 150
    have s0 := (ds_of hRt hv).1
    rw [s0] at s1
    have s8 := Lib.hid (fun j (hj : j < (mgR zs).length) => (vSegs_at s6 (j := j) hj).1)
    replace s7 := Lib.hid s7
    clear hv hRt
    generalize hTN : mtN zs = TN at *
    generalize hTD : mtD zs = TD at *
    generalize hTC : mtC zs = TC at *
    generalize hDR : dsR 17 3 2 150 zs = DR at *
    have hhid := Lib.hid hMC
    go_upto_region 5 with (first | (go_at_call 34; ((with_reducible refine (implMergeSegments_any sa Ln sc zs _ hr hL (by omega)).mono ?_); rintro e wk1 ⟨v, rfl, hP, x2⟩; rw [hMC]; skip)))
    obtain ⟨va, vc, rfl⟩ := hP.shape
    have hX := x2
    replace hr := hr.ext hX
    replace hE := hE.trans hX
    clear hX x2
    go_upto_region 6 with (first | (go_at_call 33; ((with_reducible refine (specMergeSegments_any sa Ln sc zs _ hr hL (by omega)).mono ?_); rintro e wk2 ⟨v2, rfl, hP2, x2⟩; rw [hMC]; skip)))
    obtain ⟨vb, vd, rfl⟩ := hP2.shape
    clear hP2
    have hX := x2
    replace hr := hr.ext hX
    replace hP := hP.ext hX
    replace hE := hE.trans hX
    clear hX x2
    go_upto_region 7 with (first | (go_at_call 42; ((with_reducible refine (implMeanTemp_any sa Ln sc zs _ hr hL (by omega)).mono ?_); rintro e wk3 ⟨rfl, x2⟩; rw [hTN, hTD, hTC]; skip)))
    generalize hV : World.alloc _ _ = V3
    have hX : Ext wk2 V3 := by rw [← hV]; exact x2.alloc _
    have hlp : wk3.heap.size < V3.heap.size := by rw [← hV]; simp
    have p0 : V3.cell? ⟨wk3.heap.size, 0, none⟩ = some (.int .i64 TN) := by rw [← hV]; simp [go_sem]
    have p1 : V3.cell? ⟨wk3.heap.size, 1, none⟩ = some (.int .i64 TD) := by rw [← hV]; simp [go_sem]
    replace hr := hr.ext hX
    replace hP := hP.ext hX
    replace hE := hE.trans hX
    clear hX x2 hV
    generalize wk3.heap.size = gP at *
    go_upto_region 8 with (first | (go_at_call 41; ((with_reducible refine (specMeanTemp_any sa Ln sc zs _ hr hL (by omega)).mono ?_); rintro e wk4 ⟨rfl, x2⟩; rw [hTN, hTD, hTC]; skip)))
    generalize hV : World.alloc _ _ = V4
    have hX : Ext V3 V4 := by rw [← hV]; exact x2.alloc _
    have hlq : wk4.heap.size < V4.heap.size := by rw [← hV]; simp
    have q0 : V4.cell? ⟨wk4.heap.size, 0, none⟩ = some (.int .i64 TN) := by rw [← hV]; simp [go_sem]
    have q1 : V4.cell? ⟨wk4.heap.size, 1, none⟩ = some (.int .i64 TD) := by rw [← hV]; simp [go_sem]
    replace p0 := (hX.cells.1 _ _ hlp).trans p0
    replace p1 := (hX.cells.1 _ _ hlp).trans p1
    replace hlp := Nat.lt_of_lt_of_le hlp hX.size
    replace hr := hr.ext hX
    replace hP := hP.ext hX
    replace hE := hE.trans hX
    clear hX x2 hV
    generalize wk4.heap.size = gQ at *
    generalize hO : mgR zs = O at *
    clear hO
    go_upto_region 13 with fail
    generalize hV : World.alloc _ _ = V9
    have hX : Ext V4 V9 := by rw [← hV]; exact (Ext.refl _).alloc _
    have hlr9 : V4.heap.size < V9.heap.size := by rw [← hV]; simp
    have r90 : V9.cell? ⟨V4.heap.size, 0, none⟩ = some (.int .i64 17) := by rw [← hV]; simp [go_sem]
    have r91 : V9.cell? ⟨V4.heap.size, 1, none⟩ = some (.int .i64 3) := by rw [← hV]; simp [go_sem]
    have r92 : V9.cell? ⟨V4.heap.size, 2, none⟩ = some (.int .i64 2) := by rw [← hV]; simp [go_sem]
    have r93 : V9.cell? ⟨V4.heap.size, 3, none⟩ = some (.int .i64 150) := by rw [← hV]; simp [go_sem]
    replace p0 := (hX.cells.1 _ _ hlp).trans p0
    replace p1 := (hX.cells.1 _ _ hlp).trans p1
    replace hlp := Nat.lt_of_lt_of_le hlp hX.size
    replace q0 := (hX.cells.1 _ _ hlq).trans q0
    replace q1 := (hX.cells.1 _ _ hlq).trans q1
    replace hlq := Nat.lt_of_lt_of_le hlq hX.size
    replace hr := hr.ext hX
    replace hP := hP.ext hX
    replace hE := hE.trans hX
    clear hX hV
    generalize V4.heap.size = gR at *
    go_upto_region 14 with (first | (go_at_call 38; ((with_reducible refine (implDriftSum_any 17 3 2 150 sa Ln sc zs _ hr hL (by omega)).mono ?_); rintro e wk6 ⟨rfl, x2⟩; rw [s0, hDR]; skip)))
    have hX := x2
    replace p0 := (hX.cells.1 _ _ hlp).trans p0
    replace p1 := (hX.cells.1 _ _ hlp).trans p1
    replace hlp := Nat.lt_of_lt_of_le hlp hX.size
    replace q0 := (hX.cells.1 _ _ hlq).trans q0
    replace q1 := (hX.cells.1 _ _ hlq).trans q1
    replace hlq := Nat.lt_of_lt_of_le hlq hX.size
    replace r90 := (hX.cells.1 _ _ hlr9).trans r90
    replace r91 := (hX.cells.1 _ _ hlr9).trans r91
    replace r92 := (hX.cells.1 _ _ hlr9).trans r92
    replace r93 := (hX.cells.1 _ _ hlr9).trans r93
    replace hlr9 := Nat.lt_of_lt_of_le hlr9 hX.size
    replace hr := hr.ext hX
    replace hP := hP.ext hX
    replace hE := hE.trans hX
    clear hX x2
    go_upto_region 15 with (first | (go_at_call 38; ((with_reducible refine (implDriftSum_any 17 3 2 150 va _ vc O _ hP.row rfl (by omega)).mono ?_); rintro e wk7 ⟨rfl, x2⟩; rw [s1, s2]; skip)))
    have hX := x2
    replace p0 := (hX.cells.1 _ _ hlp).trans p0
    replace p1 := (hX.cells.1 _ _ hlp).trans p1
    replace hlp := Nat.lt_of_lt_of_le hlp hX.size
    replace q0 := (hX.cells.1 _ _ hlq).trans q0
    replace q1 := (hX.cells.1 _ _ hlq).trans q1
    replace hlq := Nat.lt_of_lt_of_le hlq hX.size
    replace r90 := (hX.cells.1 _ _ hlr9).trans r90
    replace r91 := (hX.cells.1 _ _ hlr9).trans r91
    replace r92 := (hX.cells.1 _ _ hlr9).trans r92
    replace r93 := (hX.cells.1 _ _ hlr9).trans r93
    replace hlr9 := Nat.lt_of_lt_of_le hlr9 hX.size
    replace hr := hr.ext hX
    replace hP := hP.ext hX
    replace hE := hE.trans hX
    clear hX x2
    go_upto_region 16 with (first | (go_at_call 42; ((with_reducible refine (implMeanTemp_any va _ vc O _ hP.row rfl (by omega)).mono ?_); rintro e wk8 ⟨rfl, x2⟩; rw [s3, s4, s5]; skip)))
    generalize hV : World.alloc _ _ = V8
    have hX : Ext wk7 V8 := by rw [← hV]; exact x2.alloc _
    have hlt : wk8.heap.size < V8.heap.size := by rw [← hV]; simp
    have t0 : V8.cell? ⟨wk8.heap.size, 0, none⟩ = some (.int .i64 TN) := by rw [← hV]; simp [go_sem]
    have t1 : V8.cell? ⟨wk8.heap.size, 1, none⟩ = some (.int .i64 TD) := by rw [← hV]; simp [go_sem]
    replace p0 := (hX.cells.1 _ _ hlp).trans p0
    replace p1 := (hX.cells.1 _ _ hlp).trans p1
    replace hlp := Nat.lt_of_lt_of_le hlp hX.size
    replace q0 := (hX.cells.1 _ _ hlq).trans q0
    replace q1 := (hX.cells.1 _ _ hlq).trans q1
    replace hlq := Nat.lt_of_lt_of_le hlq hX.size
    replace r90 := (hX.cells.1 _ _ hlr9).trans r90
    replace r91 := (hX.cells.1 _ _ hlr9).trans r91
    replace r92 := (hX.cells.1 _ _ hlr9).trans r92
    replace r93 := (hX.cells.1 _ _ hlr9).trans r93
    replace hlr9 := Nat.lt_of_lt_of_le hlr9 hX.size
    replace hr := hr.ext hX
    replace hP := hP.ext hX
    replace hE := hE.trans hX
    clear hX x2 hV
    generalize wk8.heap.size = gT at *
    go_upto_region 18 with (first | (go_at_call 28; ((with_reducible refine (implValidSegments_any va _ vc O _ hP.row rfl (by omega)).mono ?_); rintro e wk9 ⟨rfl, x2⟩; rw [s6]; skip)))
    have hX := x2
    replace p0 := (hX.cells.1 _ _ hlp).trans p0
    replace p1 := (hX.cells.1 _ _ hlp).trans p1
    replace hlp := Nat.lt_of_lt_of_le hlp hX.size
    replace q0 := (hX.cells.1 _ _ hlq).trans q0
    replace q1 := (hX.cells.1 _ _ hlq).trans q1
    replace hlq := Nat.lt_of_lt_of_le hlq hX.size
    replace r90 := (hX.cells.1 _ _ hlr9).trans r90
    replace r91 := (hX.cells.1 _ _ hlr9).trans r91
    replace r92 := (hX.cells.1 _ _ hlr9).trans r92
    replace r93 := (hX.cells.1 _ _ hlr9).trans r93
    replace hlr9 := Nat.lt_of_lt_of_le hlr9 hX.size
    replace t0 := (hX.cells.1 _ _ hlt).trans t0
    replace t1 := (hX.cells.1 _ _ hlt).trans t1
    replace hlt := Nat.lt_of_lt_of_le hlt hX.size
    replace hr := hr.ext hX
    replace hP := hP.ext hX
    replace hE := hE.trans hX
    clear hX x2
    clear s0 s1 s2 s3 s4 s5 s6 hTN hTD hTC hDR hMC hhid p0 p1 q0 q1 r90 r91 r92 r93 t0 t1
    rename World => W9
    go_wp2_with fail
    go_loopw [19] (fun ii wr => ∃ i : Nat, ii = .int .i64 i ∧ 1 ≤ i ∧ (i ≤ O.length ∨ O.length = 0 ∧ i = 1) ∧ Ext W9 wr) (fun ii _ => O.length - (intOf ii).toNat)
    case atStart => exact ⟨1, rfl, by omega, by omega, Ext.refl _⟩
    case round =>
      obtain ⟨i, rfl, hi1, hi2, xw⟩ := hrel
      by_cases h0 : i < O.length
      · obtain ⟨k, rfl⟩ : ∃ k, i = k + 1 := ⟨i - 1, by omega⟩
        obtain ⟨g, h1, t1, rfl, hg, eh1, et1, c0, c1, _, _⟩ := (hP.ext xw).nth (j := k) (by omega)
        obtain ⟨g', h2, t2, e2, _, eh2, et2, d0, d1, _, _⟩ := (hP.ext xw).nth (j := k + 1) (by omega)
        injection e2 with e2; injection e2 with e2; subst e2
        have hap := s7.out k h0
        rw [eh1.out, et1.out, eh2.out, et2.out] at hap
        have hb1 := s8.out k (by omega)
        have hb2 := s8.out (k + 1) (by omega)
        rw [eh1.out] at hb1
        rw [eh2.out] at hb2
        have q1 : IntKind.i64.wrap (h1 + h2) = h1 + h2 := IntWalk.i64_in _ (by omega)
        have q2 : IntKind.i64.wrap (((k + 1 : Nat) : Int) - 1) = (k : Int) := by rw [IntWalk.i64_in _ (by omega)]; omega
        have q3 : IntKind.i64.wrap (((k + 1 : Nat) : Int) + 1) = ((k + 1 + 1 : Nat) : Int) := by rw [IntWalk.i64_in _ (by omega)]; omega
        have t8 : k < O.length := by omega
        have t9 : (k : Int) < (O.length : Int) := by omega
        have u8 : k + 1 < O.length := h0
        have u9 : ((k + 1 : Nat) : Int) < (O.length : Int) := by omega
        have v9 : (0 : Int) ≤ (k : Int) := by omega
        generalize hi9 : k + 1 = i at *
        replace hi9 := Lib.hid hi9
        clear eh1 et1 eh2 et2 hb1 hb2
        by_cases ht : t1 = t2
        · have hs : ¬ h1 + h2 ≤ 240 := fun h => hap ⟨ht, h⟩
          have ht2 : (t1 == t2) = true := by simpa using ht
          have hs2 : decide (h1 + h2 ≤ 240) = false := by simpa using hs
          clear hap
          go_wp2_with fail
          go_quiet (fail)
          go_wp2_with fail
          go_roundw
          case rel => exact ⟨i + 1, by first | rfl | (congr 1), by omega, by omega, by first | exact xw.drewN _ | exact xw⟩
          case measure => simp [intOf]; omega
        · have ht2 : (t1 == t2) = false := by simpa using ht
          clear hap
          go_wp2_with fail
          go_quiet (fail)
          go_wp2_with fail
          go_roundw
          case rel => exact ⟨i + 1, by first | rfl | (congr 1), by omega, by omega, by first | exact xw.drewN _ | exact xw⟩
          case measure => simp [intOf]; omega
      · have t1 : ¬ (i : Int) < (O.length : Int) := by omega
        have t2 : (O.length : Int) ≤ (Ln : Int) := by omega
        go_wp2_with fail
        go_ret
        exact ⟨rfl, hE.trans xw⟩
end Go.Proofs.Ytiodlbgfgeimoaa
