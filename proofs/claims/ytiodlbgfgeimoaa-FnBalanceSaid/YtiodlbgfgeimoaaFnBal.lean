/-
  The walk of the law FnBalance.
-/
import Derived.Test.YtiodlbgfgeimoaaDrawR
import Derived.Test.YtiodlbgfgeimoaaBalP
import Derived.Test.YtiodlbgfgeimoaaFloor
import Derived.Test.YtiodlbgfgeimoaaDice
import Derived.Test.YtiodlbgfgeimoaaHeld
import Derived.Deep.DeepCutAuto
namespace Go.Proofs.Ytiodlbgfgeimoaa
open Go.RowKit
set_option linter.unusedSimpArgs false
set_option linter.unusedVariables false

theorem ra_ok {b l c m t : Int} (h : raC b l c m t = 0) : raR b l c m t = rtAt b l c m t := by
  unfold raC at h
  unfold raR
  split at h
  · omega
  · rename_i h1
    rw [if_neg h1]
    split at h
    · omega
    · rename_i h2
      rw [if_neg h2]

set_option maxRecDepth 100000 in
set_option maxHeartbeats 2000000 in
theorem fnBalance_walk (a : Option Addr) (n cp : Nat) (w : World) (hB : RowB w w.heap.size a n) :
    Calls Try.prog 14 #[.slice a n cp] w fun e w' => e = .returned (.bool true) ∧ Ext w w' := by
  by_cases hbig : 4096 < n
  · have t1 : decide (4096 < n) = true := by simpa using hbig
    go_enter Try.func14, Try.ntmps14
    go_wp2_with (first | (go_at_call 50; refine (f6big_any a n cp _).mono ?_; rintro e w1 ⟨rfl, rfl⟩; rw [t1]))
    go_ret
    exact ⟨rfl, Ext.refl _⟩
  have t1 : decide (4096 < n) = false := by simpa using hbig
  go_enter Try.func14, Try.ntmps14
  go_upto_region 4 with (first | (go_at_call 50; refine (f6big_any a n cp _).mono ?_; rintro e w1 ⟨rfl, rfl⟩; rw [t1]) | (go_at_call 51; refine (drawOther_any a n cp _ hB (by omega)).mono ?_; rintro e w1 ⟨⟨v0, v1, v2, v3, q, rfl⟩, x1⟩))
  generalize hV : World.alloc _ _ = V
  have hE : Ext w V := by rw [← hV]; exact (x1.alloc _)
  have hlf : w1.heap.size < V.heap.size := by rw [← hV]; simp; try omega
  have f0 : V.cell? ⟨w1.heap.size, 0, none⟩ = some (.int .i64 v0) := by rw [← hV]; simp [go_sem]
  have f1 : V.cell? ⟨w1.heap.size, 1, none⟩ = some (.int .i64 v1) := by rw [← hV]; simp [go_sem]
  have f2 : V.cell? ⟨w1.heap.size, 2, none⟩ = some (.int .i64 v2) := by rw [← hV]; simp [go_sem]
  have f3 : V.cell? ⟨w1.heap.size, 3, none⟩ = some (.int .i64 v3) := by rw [← hV]; simp [go_sem]
  clear hV x1
  generalize w1.heap.size = gA at *
  have x0 := Ext.refl V
  have hok := fun h => ot_ok (b := v0) (l := v1) (c := v2) (m := v3) (t := q) h
  have hbp := fun h => bp_ok (b := v0) (l := v1) (c := v2) (m := v3) h
  have hra := fun t h => ra_ok (b := v0) (l := v1) (c := v2) (m := v3) (t := t) h
  generalize hOT : otT v0 v1 v2 v3 q = OT at *
  generalize hOC : otC v0 v1 v2 v3 q = OC at *
  generalize hBN : bpN v0 v1 v2 v3 = BN at *
  generalize hBD : bpD v0 v1 v2 v3 = BD at *
  generalize hBC : bpC v0 v1 v2 v3 = BC at *
  have hra0 := hra q
  generalize hRA : raR v0 v1 v2 v3 q = RA at *
  generalize hRC : raC v0 v1 v2 v3 q = RC at *
  replace hok := Lib.hid hok
  replace hbp := Lib.hid hbp
  replace hra := Lib.hid hra
  replace hra0 := Lib.hid hra0
  by_cases hc : OC = 0
  · obtain ⟨o1, o2, o3, o4, o5⟩ := hok.out hc
    subst hc
    skip
    go_upto_region 6 with (first | (go_at_call 24; refine (implOtherTemp_any v0 v1 v2 v3 q _).mono ?_; rintro e w2 ⟨rfl, x2⟩; rw [hOT, hOC]; replace x0 := (by first | exact x0.trans x2 | exact (x0.alloc _).trans x2 | exact ((x0.alloc _).alloc _).trans x2 | exact (((x0.alloc _).alloc _).alloc _).trans x2); clear x2; (try clear xc xf xs); obtain ⟨xc, xf, xs⟩ := x0.cells) | (go_at_call 23; refine (specOtherTemp_any v0 v1 v2 v3 q _).mono ?_; rintro e w2 ⟨rfl, x2⟩; rw [hOT, hOC]; replace x0 := (by first | exact x0.trans x2 | exact (x0.alloc _).trans x2 | exact ((x0.alloc _).alloc _).trans x2 | exact (((x0.alloc _).alloc _).alloc _).trans x2); clear x2; (try clear xc xf xs); obtain ⟨xc, xf, xs⟩ := x0.cells))
    have hX := x0
    replace f0 := (hX.cells.1 _ _ hlf).trans f0
    replace f1 := (hX.cells.1 _ _ hlf).trans f1
    replace f2 := (hX.cells.1 _ _ hlf).trans f2
    replace f3 := (hX.cells.1 _ _ hlf).trans f3
    replace hlf := Nat.lt_of_lt_of_le hlf hX.size
    replace hE := hE.trans hX
    clear hX x0 xc xf xs
    have x0 := Ext.refl w2
    go_upto_region 8 with (first | (go_at_call 22; refine (implRateAt_any v0 v1 v2 v3 q _).mono ?_; rintro e w2 ⟨rfl, x2⟩; rw [hRA, hRC]; replace x0 := (by first | exact x0.trans x2 | exact (x0.alloc _).trans x2 | exact ((x0.alloc _).alloc _).trans x2 | exact (((x0.alloc _).alloc _).alloc _).trans x2); clear x2; (try clear xc xf xs); obtain ⟨xc, xf, xs⟩ := x0.cells) | (go_at_call 21; refine (specRateAt_any v0 v1 v2 v3 q _).mono ?_; rintro e w2 ⟨rfl, x2⟩; rw [hRA, hRC]; replace x0 := (by first | exact x0.trans x2 | exact (x0.alloc _).trans x2 | exact ((x0.alloc _).alloc _).trans x2 | exact (((x0.alloc _).alloc _).alloc _).trans x2); clear x2; (try clear xc xf xs); obtain ⟨xc, xf, xs⟩ := x0.cells))
    have hX := x0
    replace f0 := (hX.cells.1 _ _ hlf).trans f0
    replace f1 := (hX.cells.1 _ _ hlf).trans f1
    replace f2 := (hX.cells.1 _ _ hlf).trans f2
    replace f3 := (hX.cells.1 _ _ hlf).trans f3
    replace hlf := Nat.lt_of_lt_of_le hlf hX.size
    replace hE := hE.trans hX
    clear hX x0 xc xf xs
    have x0 := Ext.refl w2
    go_upto_region 9 with (first | (go_at_call 31; refine (implBalance_any v0 v1 v2 v3 _).mono ?_; rintro e w2 ⟨rfl, x2⟩; rw [hBN, hBD, hBC]; replace x0 := (by first | exact x0.trans x2 | exact (x0.alloc _).trans x2 | exact ((x0.alloc _).alloc _).trans x2 | exact (((x0.alloc _).alloc _).alloc _).trans x2); clear x2; (try clear xc xf xs); obtain ⟨xc, xf, xs⟩ := x0.cells))
    generalize hV : World.alloc _ _ = V2
    have hX := (show Ext _ V2 from (by rw [← hV]; exact (x0.alloc _)))
    have hlp : w2.heap.size < V2.heap.size := by rw [← hV]; simp; try omega
    have p0 : V2.cell? ⟨w2.heap.size, 0, none⟩ = some (.int .i64 BN) := by rw [← hV]; simp [go_sem]
    have p1 : V2.cell? ⟨w2.heap.size, 1, none⟩ = some (.int .i64 BD) := by rw [← hV]; simp [go_sem]
    replace f0 := (hX.cells.1 _ _ hlf).trans f0
    replace f1 := (hX.cells.1 _ _ hlf).trans f1
    replace f2 := (hX.cells.1 _ _ hlf).trans f2
    replace f3 := (hX.cells.1 _ _ hlf).trans f3
    replace hlf := Nat.lt_of_lt_of_le hlf hX.size
    replace hE := hE.trans hX
    clear hV hX x0 xc xf xs
    generalize w2.heap.size = gP at *
    have x0 := Ext.refl V2
    go_upto_region 10 with (first | (go_at_call 30; refine (specBalance_any v0 v1 v2 v3 _).mono ?_; rintro e w2 ⟨rfl, x2⟩; rw [hBN, hBD, hBC]; replace x0 := (by first | exact x0.trans x2 | exact (x0.alloc _).trans x2 | exact ((x0.alloc _).alloc _).trans x2 | exact (((x0.alloc _).alloc _).alloc _).trans x2); clear x2; (try clear xc xf xs); obtain ⟨xc, xf, xs⟩ := x0.cells))
    generalize hV : World.alloc _ _ = V3
    have hX := (show Ext _ V3 from (by rw [← hV]; exact (x0.alloc _)))
    have hls : w2.heap.size < V3.heap.size := by rw [← hV]; simp; try omega
    have s0 : V3.cell? ⟨w2.heap.size, 0, none⟩ = some (.int .i64 BN) := by rw [← hV]; simp [go_sem]
    have s1 : V3.cell? ⟨w2.heap.size, 1, none⟩ = some (.int .i64 BD) := by rw [← hV]; simp [go_sem]
    replace f0 := (hX.cells.1 _ _ hlf).trans f0
    replace f1 := (hX.cells.1 _ _ hlf).trans f1
    replace f2 := (hX.cells.1 _ _ hlf).trans f2
    replace f3 := (hX.cells.1 _ _ hlf).trans f3
    replace hlf := Nat.lt_of_lt_of_le hlf hX.size
    replace p0 := (hX.cells.1 _ _ hlp).trans p0
    replace p1 := (hX.cells.1 _ _ hlp).trans p1
    replace hlp := Nat.lt_of_lt_of_le hlp hX.size
    replace hE := hE.trans hX
    clear hV hX x0 xc xf xs
    generalize w2.heap.size = gS at *
    have x0 := Ext.refl V3
    clear hOT hOC hRA hRC hBN hBD hBC
    go_region_held3 (fun w' => w'.cell? ⟨gA, 0, none⟩ = some (.int .i64 v0) ∧ w'.cell? ⟨gA, 1, none⟩ = some (.int .i64 v1) ∧ w'.cell? ⟨gA, 2, none⟩ = some (.int .i64 v2) ∧ w'.cell? ⟨gA, 3, none⟩ = some (.int .i64 v3) ∧ w'.cell? ⟨gP, 0, none⟩ = some (.int .i64 BN) ∧ w'.cell? ⟨gP, 1, none⟩ = some (.int .i64 BD) ∧ w'.cell? ⟨gS, 0, none⟩ = some (.int .i64 BN) ∧ w'.cell? ⟨gS, 1, none⟩ = some (.int .i64 BD))
      (first | (refine ⟨?_, ?_, ?_, ?_, ?_, ?_, ?_, ?_⟩ <;> with_reducible assumption) | (refine ⟨?_, ?_, ?_, ?_, ?_, ?_, ?_, ?_⟩ <;> (refine keep_ext (W := V3) ?_ (by assumption) (by assumption); exact x0)) | go_keep)
      (first | (go_at_call 20; refine (implValidRate_any v0 v1 v2 v3 _).mono ?_; rintro e w8 ⟨rfl, x2⟩; replace x0 := (by first | exact x0.trans x2 | exact (x0.drew).trans x2 | exact (x0.drewN _).trans x2); clear x2) | (go_at_call 18; refine (specValidRate_any v0 v1 v2 v3 _).mono ?_; rintro e w8 ⟨rfl, x2⟩; replace x0 := (by first | exact x0.trans x2 | exact (x0.drew).trans x2 | exact (x0.drewN _).trans x2); clear x2))
    have hX := x0
    replace f0 := (hX.cells.1 _ _ hlf).trans f0
    replace f1 := (hX.cells.1 _ _ hlf).trans f1
    replace f2 := (hX.cells.1 _ _ hlf).trans f2
    replace f3 := (hX.cells.1 _ _ hlf).trans f3
    replace hlf := Nat.lt_of_lt_of_le hlf hX.size
    replace p0 := (hX.cells.1 _ _ hlp).trans p0
    replace p1 := (hX.cells.1 _ _ hlp).trans p1
    replace hlp := Nat.lt_of_lt_of_le hlp hX.size
    replace hE := hE.trans hX
    clear hX x0
    have x0 := Ext.refl w8
    go_upto_region 15 with (first | (go_at_call 22; refine (implRateAt_any v0 v1 v2 v3 OT _).mono ?_; rintro e w2 ⟨rfl, x2⟩; rw [o1, o2]; replace x0 := (by first | exact x0.trans x2 | exact (x0.alloc _).trans x2 | exact ((x0.alloc _).alloc _).trans x2 | exact (((x0.alloc _).alloc _).alloc _).trans x2); clear x2; (try clear xc xf xs); obtain ⟨xc, xf, xs⟩ := x0.cells) | (go_at_call 24; refine (implOtherTemp_any v0 v1 v2 v3 OT _).mono ?_; rintro e w2 ⟨rfl, x2⟩; rw [o4, o5]; replace x0 := (by first | exact x0.trans x2 | exact (x0.alloc _).trans x2 | exact ((x0.alloc _).alloc _).trans x2 | exact (((x0.alloc _).alloc _).alloc _).trans x2); clear x2; (try clear xc xf xs); obtain ⟨xc, xf, xs⟩ := x0.cells))
    have hX := x0
    replace f0 := (hX.cells.1 _ _ hlf).trans f0
    replace f1 := (hX.cells.1 _ _ hlf).trans f1
    replace f2 := (hX.cells.1 _ _ hlf).trans f2
    replace f3 := (hX.cells.1 _ _ hlf).trans f3
    replace hlf := Nat.lt_of_lt_of_le hlf hX.size
    replace p0 := (hX.cells.1 _ _ hlp).trans p0
    replace p1 := (hX.cells.1 _ _ hlp).trans p1
    replace hlp := Nat.lt_of_lt_of_le hlp hX.size
    replace hE := hE.trans hX
    clear hX x0 xc xf xs
    have x0 := Ext.refl w2
    subst o3
    by_cases c3 : BC = 0
    · subst c3
      obtain ⟨_, g1, g2, g3, g4, g5⟩ := hbp.out rfl
      replace g4 := Lib.hid g4
      replace g5 := Lib.hid g5
      have hF2 := Lib.hid (hra.out (BN / BD))
      have hF3 := Lib.hid (hra.out (BN / BD + 1))
      have hr0 := Lib.hid (hra0.out rfl)
      go_upto_region 20 with (first | (go_at_call 52; refine (floorRatio_any BN BD _ g1).mono ?_; rintro e w2 ⟨rfl, x2⟩; replace x0 := (by first | exact x0.trans x2 | exact (x0.alloc _).trans x2 | exact ((x0.alloc _).alloc _).trans x2 | exact (((x0.alloc _).alloc _).alloc _).trans x2); clear x2; (try clear xc xf xs); obtain ⟨xc, xf, xs⟩ := x0.cells))
      have hX := x0
      replace f0 := (hX.cells.1 _ _ hlf).trans f0
      replace f1 := (hX.cells.1 _ _ hlf).trans f1
      replace f2 := (hX.cells.1 _ _ hlf).trans f2
      replace f3 := (hX.cells.1 _ _ hlf).trans f3
      replace hlf := Nat.lt_of_lt_of_le hlf hX.size
      replace p0 := (hX.cells.1 _ _ hlp).trans p0
      replace p1 := (hX.cells.1 _ _ hlp).trans p1
      replace hlp := Nat.lt_of_lt_of_le hlp hX.size
      replace hE := hE.trans hX
      clear hX x0 xc xf xs
      have x0 := Ext.refl w2
      generalize hF : BN / BD = F at *
      have qF : IntKind.i64.wrap (F + 1) = F + 1 := IntWalk.i64_in _ (by omega)
      generalize hA : raR v0 v1 v2 v3 F = A at *
      generalize hAC : raC v0 v1 v2 v3 F = AC at *
      generalize hB2 : raR v0 v1 v2 v3 (F + 1) = B at *
      generalize hB2C : raC v0 v1 v2 v3 (F + 1) = B2C at *
      go_upto_region 21 with (first | (go_at_call 22; ((with_reducible refine (implRateAt_any v0 v1 v2 v3 F _).mono ?_); rintro e w2 ⟨rfl, x2⟩; rw [hA, hAC]; replace x0 := (by first | exact x0.trans x2 | exact (x0.alloc _).trans x2 | exact ((x0.alloc _).alloc _).trans x2 | exact (((x0.alloc _).alloc _).alloc _).trans x2); clear x2; (try clear xc xf xs); obtain ⟨xc, xf, xs⟩ := x0.cells)))
      have hX := x0
      replace f0 := (hX.cells.1 _ _ hlf).trans f0
      replace f1 := (hX.cells.1 _ _ hlf).trans f1
      replace f2 := (hX.cells.1 _ _ hlf).trans f2
      replace f3 := (hX.cells.1 _ _ hlf).trans f3
      replace hlf := Nat.lt_of_lt_of_le hlf hX.size
      replace p0 := (hX.cells.1 _ _ hlp).trans p0
      replace p1 := (hX.cells.1 _ _ hlp).trans p1
      replace hlp := Nat.lt_of_lt_of_le hlp hX.size
      replace hE := hE.trans hX
      clear hX x0 xc xf xs
      have x0 := Ext.refl w2
      go_upto_region 22 with (first | (go_at_call 22; ((with_reducible refine (implRateAt_any v0 v1 v2 v3 (F + 1) _).mono ?_); rintro e w2 ⟨rfl, x2⟩; rw [hB2, hB2C]; replace x0 := (by first | exact x0.trans x2 | exact (x0.alloc _).trans x2 | exact ((x0.alloc _).alloc _).trans x2 | exact (((x0.alloc _).alloc _).alloc _).trans x2); clear x2; (try clear xc xf xs); obtain ⟨xc, xf, xs⟩ := x0.cells)))
      have hX := x0
      replace f0 := (hX.cells.1 _ _ hlf).trans f0
      replace f1 := (hX.cells.1 _ _ hlf).trans f1
      replace f2 := (hX.cells.1 _ _ hlf).trans f2
      replace f3 := (hX.cells.1 _ _ hlf).trans f3
      replace hlf := Nat.lt_of_lt_of_le hlf hX.size
      replace p0 := (hX.cells.1 _ _ hlp).trans p0
      replace p1 := (hX.cells.1 _ _ hlp).trans p1
      replace hlp := Nat.lt_of_lt_of_le hlp hX.size
      replace hE := hE.trans hX
      clear hX x0 xc xf xs
      have x0 := Ext.refl w2
      clear hA hAC hB2 hB2C hF
      by_cases d1 : AC = 0
      · subst d1
        by_cases d3 : B2C = 0
        · subst d3
          have e1 := hF2.out rfl
          have e2 := hF3.out rfl
          by_cases p1 : 0 < v2
          · have k := g4.out p1 q
            rw [← hr0.out, ← e1, ← e2] at k
            clear hr0 e1 e2
            by_cases p2 : B < A
            · have p3 : B ≤ RA := by omega
              clear k
              go_wp2_with fail
              go_ret
              exact ⟨rfl, by first | exact hE.trans x0 | exact hE⟩
            · have p3 : A ≤ RA := by omega
              clear k
              go_wp2_with fail
              go_ret
              exact ⟨rfl, by first | exact hE.trans x0 | exact hE⟩
          · have k := g5.out (by omega) q
            rw [← hr0.out, ← e1, ← e2] at k
            clear hr0 e1 e2
            by_cases p2 : A < B
            · have p3 : RA ≤ B := by omega
              clear k
              go_wp2_with fail
              go_ret
              exact ⟨rfl, by first | exact hE.trans x0 | exact hE⟩
            · have p3 : RA ≤ A := by omega
              clear k
              go_wp2_with fail
              go_ret
              exact ⟨rfl, by first | exact hE.trans x0 | exact hE⟩
        · have d4 : (B2C != 0) = true := by simpa using d3
          go_wp2_with fail
          go_ret
          exact ⟨rfl, by first | exact hE.trans x0 | exact hE⟩
      · have d2 : (AC != 0) = true := by simpa using d1
        go_wp2_with fail
        go_ret
        exact ⟨rfl, by first | exact hE.trans x0 | exact hE⟩
    · have c4 : (BC != 0) = true := by simpa using c3
      go_wp2_with fail
      go_ret
      exact ⟨rfl, by first | exact hE.trans x0 | exact hE⟩
  · have hc2 : (OC == 0) = false := by simpa using hc
    go_upto_region 6 with (first | (go_at_call 24; refine (implOtherTemp_any v0 v1 v2 v3 q _).mono ?_; rintro e w2 ⟨rfl, x2⟩; rw [hOT, hOC]; replace x0 := (by first | exact x0.trans x2 | exact (x0.alloc _).trans x2 | exact ((x0.alloc _).alloc _).trans x2 | exact (((x0.alloc _).alloc _).alloc _).trans x2); clear x2; (try clear xc xf xs); obtain ⟨xc, xf, xs⟩ := x0.cells) | (go_at_call 23; refine (specOtherTemp_any v0 v1 v2 v3 q _).mono ?_; rintro e w2 ⟨rfl, x2⟩; rw [hOT, hOC]; replace x0 := (by first | exact x0.trans x2 | exact (x0.alloc _).trans x2 | exact ((x0.alloc _).alloc _).trans x2 | exact (((x0.alloc _).alloc _).alloc _).trans x2); clear x2; (try clear xc xf xs); obtain ⟨xc, xf, xs⟩ := x0.cells))
    have hX := x0
    replace f0 := (hX.cells.1 _ _ hlf).trans f0
    replace f1 := (hX.cells.1 _ _ hlf).trans f1
    replace f2 := (hX.cells.1 _ _ hlf).trans f2
    replace f3 := (hX.cells.1 _ _ hlf).trans f3
    replace hlf := Nat.lt_of_lt_of_le hlf hX.size
    replace hE := hE.trans hX
    clear hX x0 xc xf xs
    have x0 := Ext.refl w2
    go_upto_region 8 with (first | (go_at_call 22; refine (implRateAt_any v0 v1 v2 v3 q _).mono ?_; rintro e w2 ⟨rfl, x2⟩; rw [hRA, hRC]; replace x0 := (by first | exact x0.trans x2 | exact (x0.alloc _).trans x2 | exact ((x0.alloc _).alloc _).trans x2 | exact (((x0.alloc _).alloc _).alloc _).trans x2); clear x2; (try clear xc xf xs); obtain ⟨xc, xf, xs⟩ := x0.cells) | (go_at_call 21; refine (specRateAt_any v0 v1 v2 v3 q _).mono ?_; rintro e w2 ⟨rfl, x2⟩; rw [hRA, hRC]; replace x0 := (by first | exact x0.trans x2 | exact (x0.alloc _).trans x2 | exact ((x0.alloc _).alloc _).trans x2 | exact (((x0.alloc _).alloc _).alloc _).trans x2); clear x2; (try clear xc xf xs); obtain ⟨xc, xf, xs⟩ := x0.cells))
    have hX := x0
    replace f0 := (hX.cells.1 _ _ hlf).trans f0
    replace f1 := (hX.cells.1 _ _ hlf).trans f1
    replace f2 := (hX.cells.1 _ _ hlf).trans f2
    replace f3 := (hX.cells.1 _ _ hlf).trans f3
    replace hlf := Nat.lt_of_lt_of_le hlf hX.size
    replace hE := hE.trans hX
    clear hX x0 xc xf xs
    have x0 := Ext.refl w2
    go_upto_region 9 with (first | (go_at_call 31; refine (implBalance_any v0 v1 v2 v3 _).mono ?_; rintro e w2 ⟨rfl, x2⟩; rw [hBN, hBD, hBC]; replace x0 := (by first | exact x0.trans x2 | exact (x0.alloc _).trans x2 | exact ((x0.alloc _).alloc _).trans x2 | exact (((x0.alloc _).alloc _).alloc _).trans x2); clear x2; (try clear xc xf xs); obtain ⟨xc, xf, xs⟩ := x0.cells))
    generalize hV : World.alloc _ _ = V2
    have hX := (show Ext _ V2 from (by rw [← hV]; exact (x0.alloc _)))
    have hlp : w2.heap.size < V2.heap.size := by rw [← hV]; simp; try omega
    have p0 : V2.cell? ⟨w2.heap.size, 0, none⟩ = some (.int .i64 BN) := by rw [← hV]; simp [go_sem]
    have p1 : V2.cell? ⟨w2.heap.size, 1, none⟩ = some (.int .i64 BD) := by rw [← hV]; simp [go_sem]
    replace f0 := (hX.cells.1 _ _ hlf).trans f0
    replace f1 := (hX.cells.1 _ _ hlf).trans f1
    replace f2 := (hX.cells.1 _ _ hlf).trans f2
    replace f3 := (hX.cells.1 _ _ hlf).trans f3
    replace hlf := Nat.lt_of_lt_of_le hlf hX.size
    replace hE := hE.trans hX
    clear hV hX x0 xc xf xs
    generalize w2.heap.size = gP at *
    have x0 := Ext.refl V2
    go_upto_region 10 with (first | (go_at_call 30; refine (specBalance_any v0 v1 v2 v3 _).mono ?_; rintro e w2 ⟨rfl, x2⟩; rw [hBN, hBD, hBC]; replace x0 := (by first | exact x0.trans x2 | exact (x0.alloc _).trans x2 | exact ((x0.alloc _).alloc _).trans x2 | exact (((x0.alloc _).alloc _).alloc _).trans x2); clear x2; (try clear xc xf xs); obtain ⟨xc, xf, xs⟩ := x0.cells))
    generalize hV : World.alloc _ _ = V3
    have hX := (show Ext _ V3 from (by rw [← hV]; exact (x0.alloc _)))
    have hls : w2.heap.size < V3.heap.size := by rw [← hV]; simp; try omega
    have s0 : V3.cell? ⟨w2.heap.size, 0, none⟩ = some (.int .i64 BN) := by rw [← hV]; simp [go_sem]
    have s1 : V3.cell? ⟨w2.heap.size, 1, none⟩ = some (.int .i64 BD) := by rw [← hV]; simp [go_sem]
    replace f0 := (hX.cells.1 _ _ hlf).trans f0
    replace f1 := (hX.cells.1 _ _ hlf).trans f1
    replace f2 := (hX.cells.1 _ _ hlf).trans f2
    replace f3 := (hX.cells.1 _ _ hlf).trans f3
    replace hlf := Nat.lt_of_lt_of_le hlf hX.size
    replace p0 := (hX.cells.1 _ _ hlp).trans p0
    replace p1 := (hX.cells.1 _ _ hlp).trans p1
    replace hlp := Nat.lt_of_lt_of_le hlp hX.size
    replace hE := hE.trans hX
    clear hV hX x0 xc xf xs
    generalize w2.heap.size = gS at *
    have x0 := Ext.refl V3
    clear hOT hOC hRA hRC hBN hBD hBC
    go_region_held3 (fun w' => w'.cell? ⟨gA, 0, none⟩ = some (.int .i64 v0) ∧ w'.cell? ⟨gA, 1, none⟩ = some (.int .i64 v1) ∧ w'.cell? ⟨gA, 2, none⟩ = some (.int .i64 v2) ∧ w'.cell? ⟨gA, 3, none⟩ = some (.int .i64 v3) ∧ w'.cell? ⟨gP, 0, none⟩ = some (.int .i64 BN) ∧ w'.cell? ⟨gP, 1, none⟩ = some (.int .i64 BD) ∧ w'.cell? ⟨gS, 0, none⟩ = some (.int .i64 BN) ∧ w'.cell? ⟨gS, 1, none⟩ = some (.int .i64 BD))
      (first | (refine ⟨?_, ?_, ?_, ?_, ?_, ?_, ?_, ?_⟩ <;> with_reducible assumption) | (refine ⟨?_, ?_, ?_, ?_, ?_, ?_, ?_, ?_⟩ <;> (refine keep_ext (W := V3) ?_ (by assumption) (by assumption); exact x0)) | go_keep)
      (first | (go_at_call 20; refine (implValidRate_any v0 v1 v2 v3 _).mono ?_; rintro e w8 ⟨rfl, x2⟩; replace x0 := (by first | exact x0.trans x2 | exact (x0.drew).trans x2 | exact (x0.drewN _).trans x2); clear x2) | (go_at_call 18; refine (specValidRate_any v0 v1 v2 v3 _).mono ?_; rintro e w8 ⟨rfl, x2⟩; replace x0 := (by first | exact x0.trans x2 | exact (x0.drew).trans x2 | exact (x0.drewN _).trans x2); clear x2))
    have hX := x0
    replace f0 := (hX.cells.1 _ _ hlf).trans f0
    replace f1 := (hX.cells.1 _ _ hlf).trans f1
    replace f2 := (hX.cells.1 _ _ hlf).trans f2
    replace f3 := (hX.cells.1 _ _ hlf).trans f3
    replace hlf := Nat.lt_of_lt_of_le hlf hX.size
    replace p0 := (hX.cells.1 _ _ hlp).trans p0
    replace p1 := (hX.cells.1 _ _ hlp).trans p1
    replace hlp := Nat.lt_of_lt_of_le hlp hX.size
    replace hE := hE.trans hX
    clear hX x0
    have x0 := Ext.refl w8
    by_cases c1 : RC = 0
    · subst c1
      by_cases c3 : BC = 0
      · subst c3
        obtain ⟨_, g1, g2, g3, g4, g5⟩ := hbp.out rfl
        replace g4 := Lib.hid g4
        replace g5 := Lib.hid g5
        have hF2 := Lib.hid (hra.out (BN / BD))
        have hF3 := Lib.hid (hra.out (BN / BD + 1))
        have hr0 := Lib.hid (hra0.out rfl)
        go_upto_region 20 with (first | (go_at_call 52; refine (floorRatio_any BN BD _ g1).mono ?_; rintro e w2 ⟨rfl, x2⟩; replace x0 := (by first | exact x0.trans x2 | exact (x0.alloc _).trans x2 | exact ((x0.alloc _).alloc _).trans x2 | exact (((x0.alloc _).alloc _).alloc _).trans x2); clear x2; (try clear xc xf xs); obtain ⟨xc, xf, xs⟩ := x0.cells))
        have hX := x0
        replace f0 := (hX.cells.1 _ _ hlf).trans f0
        replace f1 := (hX.cells.1 _ _ hlf).trans f1
        replace f2 := (hX.cells.1 _ _ hlf).trans f2
        replace f3 := (hX.cells.1 _ _ hlf).trans f3
        replace hlf := Nat.lt_of_lt_of_le hlf hX.size
        replace p0 := (hX.cells.1 _ _ hlp).trans p0
        replace p1 := (hX.cells.1 _ _ hlp).trans p1
        replace hlp := Nat.lt_of_lt_of_le hlp hX.size
        replace hE := hE.trans hX
        clear hX x0 xc xf xs
        have x0 := Ext.refl w2
        generalize hF : BN / BD = F at *
        have qF : IntKind.i64.wrap (F + 1) = F + 1 := IntWalk.i64_in _ (by omega)
        generalize hA : raR v0 v1 v2 v3 F = A at *
        generalize hAC : raC v0 v1 v2 v3 F = AC at *
        generalize hB2 : raR v0 v1 v2 v3 (F + 1) = B at *
        generalize hB2C : raC v0 v1 v2 v3 (F + 1) = B2C at *
        go_upto_region 21 with (first | (go_at_call 22; ((with_reducible refine (implRateAt_any v0 v1 v2 v3 F _).mono ?_); rintro e w2 ⟨rfl, x2⟩; rw [hA, hAC]; replace x0 := (by first | exact x0.trans x2 | exact (x0.alloc _).trans x2 | exact ((x0.alloc _).alloc _).trans x2 | exact (((x0.alloc _).alloc _).alloc _).trans x2); clear x2; (try clear xc xf xs); obtain ⟨xc, xf, xs⟩ := x0.cells)))
        have hX := x0
        replace f0 := (hX.cells.1 _ _ hlf).trans f0
        replace f1 := (hX.cells.1 _ _ hlf).trans f1
        replace f2 := (hX.cells.1 _ _ hlf).trans f2
        replace f3 := (hX.cells.1 _ _ hlf).trans f3
        replace hlf := Nat.lt_of_lt_of_le hlf hX.size
        replace p0 := (hX.cells.1 _ _ hlp).trans p0
        replace p1 := (hX.cells.1 _ _ hlp).trans p1
        replace hlp := Nat.lt_of_lt_of_le hlp hX.size
        replace hE := hE.trans hX
        clear hX x0 xc xf xs
        have x0 := Ext.refl w2
        go_upto_region 22 with (first | (go_at_call 22; ((with_reducible refine (implRateAt_any v0 v1 v2 v3 (F + 1) _).mono ?_); rintro e w2 ⟨rfl, x2⟩; rw [hB2, hB2C]; replace x0 := (by first | exact x0.trans x2 | exact (x0.alloc _).trans x2 | exact ((x0.alloc _).alloc _).trans x2 | exact (((x0.alloc _).alloc _).alloc _).trans x2); clear x2; (try clear xc xf xs); obtain ⟨xc, xf, xs⟩ := x0.cells)))
        have hX := x0
        replace f0 := (hX.cells.1 _ _ hlf).trans f0
        replace f1 := (hX.cells.1 _ _ hlf).trans f1
        replace f2 := (hX.cells.1 _ _ hlf).trans f2
        replace f3 := (hX.cells.1 _ _ hlf).trans f3
        replace hlf := Nat.lt_of_lt_of_le hlf hX.size
        replace p0 := (hX.cells.1 _ _ hlp).trans p0
        replace p1 := (hX.cells.1 _ _ hlp).trans p1
        replace hlp := Nat.lt_of_lt_of_le hlp hX.size
        replace hE := hE.trans hX
        clear hX x0 xc xf xs
        have x0 := Ext.refl w2
        clear hA hAC hB2 hB2C hF
        by_cases d1 : AC = 0
        · subst d1
          by_cases d3 : B2C = 0
          · subst d3
            have e1 := hF2.out rfl
            have e2 := hF3.out rfl
            by_cases p1 : 0 < v2
            · have k := g4.out p1 q
              rw [← hr0.out, ← e1, ← e2] at k
              clear hr0 e1 e2
              by_cases p2 : B < A
              · have p3 : B ≤ RA := by omega
                clear k
                go_wp2_with fail
                go_ret
                exact ⟨rfl, by first | exact hE.trans x0 | exact hE⟩
              · have p3 : A ≤ RA := by omega
                clear k
                go_wp2_with fail
                go_ret
                exact ⟨rfl, by first | exact hE.trans x0 | exact hE⟩
            · have k := g5.out (by omega) q
              rw [← hr0.out, ← e1, ← e2] at k
              clear hr0 e1 e2
              by_cases p2 : A < B
              · have p3 : RA ≤ B := by omega
                clear k
                go_wp2_with fail
                go_ret
                exact ⟨rfl, by first | exact hE.trans x0 | exact hE⟩
              · have p3 : RA ≤ A := by omega
                clear k
                go_wp2_with fail
                go_ret
                exact ⟨rfl, by first | exact hE.trans x0 | exact hE⟩
          · have d4 : (B2C != 0) = true := by simpa using d3
            go_wp2_with fail
            go_ret
            exact ⟨rfl, by first | exact hE.trans x0 | exact hE⟩
        · have d2 : (AC != 0) = true := by simpa using d1
          go_wp2_with fail
          go_ret
          exact ⟨rfl, by first | exact hE.trans x0 | exact hE⟩
      · have c4 : (BC != 0) = true := by simpa using c3
        go_wp2_with fail
        go_ret
        exact ⟨rfl, by first | exact hE.trans x0 | exact hE⟩
    · have c2 : (RC != 0) = true := by simpa using c1
      go_wp2_with fail
      go_ret
      exact ⟨rfl, by first | exact hE.trans x0 | exact hE⟩
end Go.Proofs.Ytiodlbgfgeimoaa
