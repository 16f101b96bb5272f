/-
  The walk of the law FnStops.
-/
import Derived.Test.YtehebhphlaghfaaEscP
import Derived.Test.YtehebhphlaghfaaManyLaw
import Derived.Test.YtehebhphlaghfaaDrawsE
import Derived.Test.YtehebhphlaghfaaDice
namespace Go.Proofs.Ytehebhphlaghfaa
open Go.RowKit
set_option linter.unusedSimpArgs false
set_option linter.unusedVariables false

set_option maxRecDepth 100000 in
set_option maxHeartbeats 1000000 in
theorem drawStop_any (a : Option Addr) (n cp : Nat) (w : World) (hB0 : RowB w w.heap.size a n) (hn : n ≤ 1048576) :
    Calls Try.prog 52 #[.slice a n cp] w fun e w' => (∃ v0 v1 v2 v3 v4 q0 s0 s1, e = .returned (.tuple #[.agg #[.int .i64 v0, .int .i64 v1, .int .i64 v2, .int .i64 v3, .int .i64 v4], .int .i64 q0, .agg #[.int .i64 s0, .int .i64 s1]])) ∧ Ext w w' := by
  go_enter Try.func52, Try.ntmps52
  go_upto_region 1 with fail
  generalize hW : World.alloc (World.alloc _ _) _ = W
  have xW : Ext w W := by rw [← hW]; exact ((Ext.refl _).alloc _).alloc _
  have hlR : w.heap.size < W.heap.size := by rw [← hW]; simp; try omega
  have hlB : w.heap.size + 1 < W.heap.size := by rw [← hW]; simp
  have r0 : W.cell? ⟨w.heap.size, 0, none⟩ = some (.int .i64 0) := by rw [← hW]; simp [go_sem]
  have r1 : W.cell? ⟨w.heap.size, 1, none⟩ = some (.int .i64 0) := by rw [← hW]; simp [go_sem]
  have r2 : W.cell? ⟨w.heap.size, 2, none⟩ = some (.int .i64 0) := by rw [← hW]; simp [go_sem]
  have r3 : W.cell? ⟨w.heap.size, 3, none⟩ = some (.int .i64 0) := by rw [← hW]; simp [go_sem]
  have r4 : W.cell? ⟨w.heap.size, 4, none⟩ = some (.int .i64 0) := by rw [← hW]; simp [go_sem]
  have b0 : W.cell? ⟨w.heap.size + 1, 0, none⟩ = some (.int .i64 0) := by rw [← hW]; simp [go_sem]
  have b1 : W.cell? ⟨w.heap.size + 1, 1, none⟩ = some (.int .i64 0) := by rw [← hW]; simp [go_sem]
  have y0 : W.frozen? ⟨w.heap.size, 0, none⟩ = false := by rw [← hW]; simp
  have y1 : W.frozen? ⟨w.heap.size, 1, none⟩ = false := by rw [← hW]; simp
  have y2 : W.frozen? ⟨w.heap.size, 2, none⟩ = false := by rw [← hW]; simp
  have y3 : W.frozen? ⟨w.heap.size, 3, none⟩ = false := by rw [← hW]; simp
  have y4 : W.frozen? ⟨w.heap.size, 4, none⟩ = false := by rw [← hW]; simp
  have d0 : W.frozen? ⟨w.heap.size + 1, 0, none⟩ = false := by rw [← hW]; simp
  have d1 : W.frozen? ⟨w.heap.size + 1, 1, none⟩ = false := by rw [← hW]; simp
  clear hW
  go_wp2_with (first | (go_at_call 81; refine (drawSwing_any a n cp _ (hB0.to xW xW.size) hn).mono ?_; rintro e w1 ⟨⟨v0, v1, v2, v3, v4, q0, s0, s1, rfl⟩, x1⟩; have kR : ∀ o, w1.cell? ⟨w.heap.size, o, none⟩ = W.cell? ⟨w.heap.size, o, none⟩ := (fun o => x1.cells.1 _ _ hlR); have kB : ∀ o, w1.cell? ⟨w.heap.size + 1, o, none⟩ = W.cell? ⟨w.heap.size + 1, o, none⟩ := (fun o => x1.cells.1 _ _ hlB); have kr : ∀ o, w1.frozen? ⟨w.heap.size, o, none⟩ = W.frozen? ⟨w.heap.size, o, none⟩ := (fun o => x1.cells.2.1 _ _ hlR); have kb : ∀ o, w1.frozen? ⟨w.heap.size + 1, o, none⟩ = W.frozen? ⟨w.heap.size + 1, o, none⟩ := (fun o => x1.cells.2.1 _ _ hlB)))
  refine bodyPost_ret (v := ?_) ?_ rfl ?_
  all_goals try (simp [results, Try.results52, go_sem, *]; exact rfl)
  exact ⟨⟨_, _, _, _, _, _, _, _, rfl⟩, by (repeat (refine Ext.setCell ?_ (by simp; try omega) _)); exact xW.trans x1⟩

set_option maxRecDepth 100000 in
set_option maxHeartbeats 2000000 in
theorem fnStops_walk (a : Option Addr) (n cp : Nat) (w : World) (hB : RowB w w.heap.size a n) :
    Calls Try.prog 15 #[.slice a n cp] w fun e w' => e = .returned (.bool true) ∧ Ext w w' := by
  by_cases hbig : 4096 < n
  · have t1 : decide (4096 < n) = true := by simpa using hbig
    go_enter Try.func15, Try.ntmps15
    go_wp2_with (first | (go_at_call 24; refine (f6big_any a n cp _).mono ?_; rintro e w1 ⟨rfl, rfl⟩; rw [t1]))
    go_ret
    exact ⟨rfl, Ext.refl _⟩
  have t1 : decide (4096 < n) = false := by simpa using hbig
  go_enter Try.func15, Try.ntmps15
  go_upto_region 4 with (first | (go_at_call 24; refine (f6big_any a n cp _).mono ?_; rintro e w1 ⟨rfl, rfl⟩; rw [t1]) | (go_at_call 52; refine (drawStop_any a n cp _ hB (by omega)).mono ?_; rintro e w1 ⟨⟨v0, v1, v2, v3, v4, q, s0, s1, rfl⟩, x1⟩))
  generalize hV : World.alloc (World.alloc _ _) _ = V
  have hE : Ext w V := by rw [← hV]; exact ((x1.alloc _).alloc _)
  have hlf : w1.heap.size < V.heap.size := by rw [← hV]; simp; try omega
  have f0 : V.cell? ⟨w1.heap.size, 0, none⟩ = some (.int .i64 v0) := by rw [← hV]; simp [go_sem]
  have f1 : V.cell? ⟨w1.heap.size, 1, none⟩ = some (.int .i64 v1) := by rw [← hV]; simp [go_sem]
  have f2 : V.cell? ⟨w1.heap.size, 2, none⟩ = some (.int .i64 v2) := by rw [← hV]; simp [go_sem]
  have f3 : V.cell? ⟨w1.heap.size, 3, none⟩ = some (.int .i64 v3) := by rw [← hV]; simp [go_sem]
  have f4 : V.cell? ⟨w1.heap.size, 4, none⟩ = some (.int .i64 v4) := by rw [← hV]; simp [go_sem]
  have hlb : w1.heap.size + 1 < V.heap.size := by rw [← hV]; simp; try omega
  have b0 : V.cell? ⟨w1.heap.size + 1, 0, none⟩ = some (.int .i64 s0) := by rw [← hV]; simp [go_sem]
  have b1 : V.cell? ⟨w1.heap.size + 1, 1, none⟩ = some (.int .i64 s1) := by rw [← hV]; simp [go_sem]
  clear hV x1
  generalize w1.heap.size + 1 = gB at *
  generalize w1.heap.size = gE at *
  have x0 := Ext.refl V
  rcases soC_cases v0 v1 v2 v3 v4 q s0 s1 with hc | ⟨hc, h5, h6⟩ | ⟨hc, hb, hr⟩
  · rcases hc with hc | hc
    · go_upto_region 9 with (first | (go_at_call 28; refine (implStopAfter_any v0 v1 v2 v3 v4 q s0 s1 _).mono ?_; rintro e w2 ⟨rfl, x2⟩; rw [hc]; replace x0 := (by first | exact x0.trans x2 | exact (x0.alloc _).trans x2 | exact ((x0.alloc _).alloc _).trans x2 | exact (((x0.alloc _).alloc _).alloc _).trans x2); clear x2; (try clear xc xf xs); obtain ⟨xc, xf, xs⟩ := x0.cells) | (go_at_call 36; refine (specStopAfter_any v0 v1 v2 v3 v4 q s0 s1 _).mono ?_; rintro e w2 ⟨rfl, x2⟩; rw [hc]; replace x0 := (by first | exact x0.trans x2 | exact (x0.alloc _).trans x2 | exact ((x0.alloc _).alloc _).trans x2 | exact (((x0.alloc _).alloc _).alloc _).trans x2); clear x2; (try clear xc xf xs); obtain ⟨xc, xf, xs⟩ := x0.cells))
      generalize hV : World.alloc _ _ = V2
      have hX := (show Ext _ V2 from (by rw [← hV]; exact (x0.alloc _)))
      have hlc : w2.heap.size < V2.heap.size := by rw [← hV]; simp; try omega
      have c0 : V2.cell? ⟨w2.heap.size, 0, none⟩ = some (.int .i64 s0) := by rw [← hV]; simp [go_sem]
      have c1 : V2.cell? ⟨w2.heap.size, 1, none⟩ = some (.int .i64 0) := by rw [← hV]; simp [go_sem]
      replace f0 := (hX.cells.1 _ _ hlf).trans f0
      replace f1 := (hX.cells.1 _ _ hlf).trans f1
      replace f2 := (hX.cells.1 _ _ hlf).trans f2
      replace f3 := (hX.cells.1 _ _ hlf).trans f3
      replace f4 := (hX.cells.1 _ _ hlf).trans f4
      replace hlf := Nat.lt_of_lt_of_le hlf hX.size
      replace b0 := (hX.cells.1 _ _ hlb).trans b0
      replace b1 := (hX.cells.1 _ _ hlb).trans b1
      replace hlb := Nat.lt_of_lt_of_le hlb hX.size
      replace hE := hE.trans hX
      clear hV hX x0 xc xf xs
      generalize w2.heap.size = gC at *
      have x0 := Ext.refl V2
      go_wp2_with (first | (go_at_call 47; refine (implSwingMany_any v0 v1 v2 v3 v4 q 50 s0 0 _).mono ?_; rintro e w2 ⟨rfl, x2⟩; replace x0 := (by first | exact x0.trans x2 | exact (x0.alloc _).trans x2 | exact ((x0.alloc _).alloc _).trans x2 | exact (((x0.alloc _).alloc _).alloc _).trans x2); clear x2; (try clear xc xf xs); obtain ⟨xc, xf, xs⟩ := x0.cells))
      go_ret
      exact ⟨rfl, by first | exact hE.trans (x0.alloc _) | exact hE.trans x0⟩
    · go_upto_region 9 with (first | (go_at_call 28; refine (implStopAfter_any v0 v1 v2 v3 v4 q s0 s1 _).mono ?_; rintro e w2 ⟨rfl, x2⟩; rw [hc]; replace x0 := (by first | exact x0.trans x2 | exact (x0.alloc _).trans x2 | exact ((x0.alloc _).alloc _).trans x2 | exact (((x0.alloc _).alloc _).alloc _).trans x2); clear x2; (try clear xc xf xs); obtain ⟨xc, xf, xs⟩ := x0.cells) | (go_at_call 36; refine (specStopAfter_any v0 v1 v2 v3 v4 q s0 s1 _).mono ?_; rintro e w2 ⟨rfl, x2⟩; rw [hc]; replace x0 := (by first | exact x0.trans x2 | exact (x0.alloc _).trans x2 | exact ((x0.alloc _).alloc _).trans x2 | exact (((x0.alloc _).alloc _).alloc _).trans x2); clear x2; (try clear xc xf xs); obtain ⟨xc, xf, xs⟩ := x0.cells))
      generalize hV : World.alloc _ _ = V2
      have hX := (show Ext _ V2 from (by rw [← hV]; exact (x0.alloc _)))
      have hlc : w2.heap.size < V2.heap.size := by rw [← hV]; simp; try omega
      have c0 : V2.cell? ⟨w2.heap.size, 0, none⟩ = some (.int .i64 s0) := by rw [← hV]; simp [go_sem]
      have c1 : V2.cell? ⟨w2.heap.size, 1, none⟩ = some (.int .i64 0) := by rw [← hV]; simp [go_sem]
      replace f0 := (hX.cells.1 _ _ hlf).trans f0
      replace f1 := (hX.cells.1 _ _ hlf).trans f1
      replace f2 := (hX.cells.1 _ _ hlf).trans f2
      replace f3 := (hX.cells.1 _ _ hlf).trans f3
      replace f4 := (hX.cells.1 _ _ hlf).trans f4
      replace hlf := Nat.lt_of_lt_of_le hlf hX.size
      replace b0 := (hX.cells.1 _ _ hlb).trans b0
      replace b1 := (hX.cells.1 _ _ hlb).trans b1
      replace hlb := Nat.lt_of_lt_of_le hlb hX.size
      replace hE := hE.trans hX
      clear hV hX x0 xc xf xs
      generalize w2.heap.size = gC at *
      have x0 := Ext.refl V2
      go_wp2_with (first | (go_at_call 47; refine (implSwingMany_any v0 v1 v2 v3 v4 q 50 s0 0 _).mono ?_; rintro e w2 ⟨rfl, x2⟩; replace x0 := (by first | exact x0.trans x2 | exact (x0.alloc _).trans x2 | exact ((x0.alloc _).alloc _).trans x2 | exact (((x0.alloc _).alloc _).alloc _).trans x2); clear x2; (try clear xc xf xs); obtain ⟨xc, xf, xs⟩ := x0.cells))
      go_ret
      exact ⟨rfl, by first | exact hE.trans (x0.alloc _) | exact hE.trans x0⟩
  · go_upto_region 9 with (first | (go_at_call 28; refine (implStopAfter_any v0 v1 v2 v3 v4 q s0 s1 _).mono ?_; rintro e w2 ⟨rfl, x2⟩; rw [hc]; replace x0 := (by first | exact x0.trans x2 | exact (x0.alloc _).trans x2 | exact ((x0.alloc _).alloc _).trans x2 | exact (((x0.alloc _).alloc _).alloc _).trans x2); clear x2; (try clear xc xf xs); obtain ⟨xc, xf, xs⟩ := x0.cells) | (go_at_call 36; refine (specStopAfter_any v0 v1 v2 v3 v4 q s0 s1 _).mono ?_; rintro e w2 ⟨rfl, x2⟩; rw [hc]; replace x0 := (by first | exact x0.trans x2 | exact (x0.alloc _).trans x2 | exact ((x0.alloc _).alloc _).trans x2 | exact (((x0.alloc _).alloc _).alloc _).trans x2); clear x2; (try clear xc xf xs); obtain ⟨xc, xf, xs⟩ := x0.cells))
    generalize hV : World.alloc _ _ = V2
    have hX := (show Ext _ V2 from (by rw [← hV]; exact (x0.alloc _)))
    have hlc : w2.heap.size < V2.heap.size := by rw [← hV]; simp; try omega
    have c0 : V2.cell? ⟨w2.heap.size, 0, none⟩ = some (.int .i64 s0) := by rw [← hV]; simp [go_sem]
    have c1 : V2.cell? ⟨w2.heap.size, 1, none⟩ = some (.int .i64 0) := by rw [← hV]; simp [go_sem]
    replace f0 := (hX.cells.1 _ _ hlf).trans f0
    replace f1 := (hX.cells.1 _ _ hlf).trans f1
    replace f2 := (hX.cells.1 _ _ hlf).trans f2
    replace f3 := (hX.cells.1 _ _ hlf).trans f3
    replace f4 := (hX.cells.1 _ _ hlf).trans f4
    replace hlf := Nat.lt_of_lt_of_le hlf hX.size
    replace b0 := (hX.cells.1 _ _ hlb).trans b0
    replace b1 := (hX.cells.1 _ _ hlb).trans b1
    replace hlb := Nat.lt_of_lt_of_le hlb hX.size
    replace hE := hE.trans hX
    clear hV hX x0 xc xf xs
    generalize w2.heap.size = gC at *
    have x0 := Ext.refl V2
    go_wp2_with (first | (go_at_call 47; refine (implSwingMany_any v0 v1 v2 v3 v4 q 50 s0 0 _).mono ?_; rintro e w2 ⟨rfl, x2⟩; rw [h5, h6]; replace x0 := (by first | exact x0.trans x2 | exact (x0.alloc _).trans x2 | exact ((x0.alloc _).alloc _).trans x2 | exact (((x0.alloc _).alloc _).alloc _).trans x2); clear x2; (try clear xc xf xs); obtain ⟨xc, xf, xs⟩ := x0.cells))
    go_ret
    exact ⟨rfl, by first | exact hE.trans (x0.alloc _) | exact hE.trans x0⟩
  · generalize hR : soR v0 v1 v2 v3 v4 q s0 s1 = R at hb hr
    go_upto_region 9 with (first | (go_at_call 28; refine (implStopAfter_any v0 v1 v2 v3 v4 q s0 s1 _).mono ?_; rintro e w2 ⟨rfl, x2⟩; rw [hc, hR]; replace x0 := (by first | exact x0.trans x2 | exact (x0.alloc _).trans x2 | exact ((x0.alloc _).alloc _).trans x2 | exact (((x0.alloc _).alloc _).alloc _).trans x2); clear x2; (try clear xc xf xs); obtain ⟨xc, xf, xs⟩ := x0.cells) | (go_at_call 36; refine (specStopAfter_any v0 v1 v2 v3 v4 q s0 s1 _).mono ?_; rintro e w2 ⟨rfl, x2⟩; rw [hc, hR]; replace x0 := (by first | exact x0.trans x2 | exact (x0.alloc _).trans x2 | exact ((x0.alloc _).alloc _).trans x2 | exact (((x0.alloc _).alloc _).alloc _).trans x2); clear x2; (try clear xc xf xs); obtain ⟨xc, xf, xs⟩ := x0.cells))
    generalize hV : World.alloc _ _ = V2
    have hX := (show Ext _ V2 from (by rw [← hV]; exact (x0.alloc _)))
    have hlc : w2.heap.size < V2.heap.size := by rw [← hV]; simp; try omega
    have c0 : V2.cell? ⟨w2.heap.size, 0, none⟩ = some (.int .i64 s0) := by rw [← hV]; simp [go_sem]
    have c1 : V2.cell? ⟨w2.heap.size, 1, none⟩ = some (.int .i64 0) := by rw [← hV]; simp [go_sem]
    replace f0 := (hX.cells.1 _ _ hlf).trans f0
    replace f1 := (hX.cells.1 _ _ hlf).trans f1
    replace f2 := (hX.cells.1 _ _ hlf).trans f2
    replace f3 := (hX.cells.1 _ _ hlf).trans f3
    replace f4 := (hX.cells.1 _ _ hlf).trans f4
    replace hlf := Nat.lt_of_lt_of_le hlf hX.size
    replace b0 := (hX.cells.1 _ _ hlb).trans b0
    replace b1 := (hX.cells.1 _ _ hlb).trans b1
    replace hlb := Nat.lt_of_lt_of_le hlb hX.size
    replace hE := hE.trans hX
    clear hV hX x0 xc xf xs
    generalize w2.heap.size = gC at *
    have x0 := Ext.refl V2
    by_cases hN : 1980 < R
    · have hN2 : ¬ R ≤ 1980 := by omega
      clear hr
      go_wp2_with fail
      go_ret
      exact ⟨rfl, by first | exact hE.trans (x0.alloc _) | exact hE.trans x0⟩
    · obtain ⟨⟨r1, r2⟩, r3, r4⟩ := hr (by omega)
      have q1 : IntKind.i64.wrap (R + 20) = R + 20 := IntWalk.i64_in _ (by omega)
      clear hr
      go_upto_region 15 with (first | (go_at_call 47; refine (implSwingMany_any v0 v1 v2 v3 v4 q R s0 0 _).mono ?_; rintro e w2 ⟨rfl, x2⟩; rw [r1, r2]; replace x0 := (by first | exact x0.trans x2 | exact (x0.alloc _).trans x2 | exact ((x0.alloc _).alloc _).trans x2 | exact (((x0.alloc _).alloc _).alloc _).trans x2); clear x2; (try clear xc xf xs); obtain ⟨xc, xf, xs⟩ := x0.cells))
      generalize hV : World.alloc _ _ = V3
      have hX := (show Ext _ V3 from (by rw [← hV]; exact (x0.alloc _)))
      have hld : w2.heap.size < V3.heap.size := by rw [← hV]; simp; try omega
      have d0 : V3.cell? ⟨w2.heap.size, 0, none⟩ = some (.int .i64 (smE v0 v1 v2 v3 v4 q R s0 0)) := by rw [← hV]; simp [go_sem]
      have d1 : V3.cell? ⟨w2.heap.size, 1, none⟩ = some (.int .i64 R) := by rw [← hV]; simp [go_sem]
      replace f0 := (hX.cells.1 _ _ hlf).trans f0
      replace f1 := (hX.cells.1 _ _ hlf).trans f1
      replace f2 := (hX.cells.1 _ _ hlf).trans f2
      replace f3 := (hX.cells.1 _ _ hlf).trans f3
      replace f4 := (hX.cells.1 _ _ hlf).trans f4
      replace hlf := Nat.lt_of_lt_of_le hlf hX.size
      replace b0 := (hX.cells.1 _ _ hlb).trans b0
      replace b1 := (hX.cells.1 _ _ hlb).trans b1
      replace hlb := Nat.lt_of_lt_of_le hlb hX.size
      replace c0 := (hX.cells.1 _ _ hlc).trans c0
      replace c1 := (hX.cells.1 _ _ hlc).trans c1
      replace hlc := Nat.lt_of_lt_of_le hlc hX.size
      replace hE := hE.trans hX
      clear hV hX x0 xc xf xs
      generalize w2.heap.size = gD at *
      have x0 := Ext.refl V3
      go_upto_region 16 with (first | (go_at_call 47; refine (implSwingMany_any v0 v1 v2 v3 v4 q (R + 20) s0 0 _).mono ?_; rintro e w2 ⟨rfl, x2⟩; rw [r3, r4]; replace x0 := (by first | exact x0.trans x2 | exact (x0.alloc _).trans x2 | exact ((x0.alloc _).alloc _).trans x2 | exact (((x0.alloc _).alloc _).alloc _).trans x2); clear x2; (try clear xc xf xs); obtain ⟨xc, xf, xs⟩ := x0.cells))
      generalize hV : World.alloc _ _ = V4
      have hX := (show Ext _ V4 from (by rw [← hV]; exact (x0.alloc _)))
      have hlh : w2.heap.size < V4.heap.size := by rw [← hV]; simp; try omega
      have h0 : V4.cell? ⟨w2.heap.size, 0, none⟩ = some (.int .i64 (smE v0 v1 v2 v3 v4 q (R + 20) s0 0)) := by rw [← hV]; simp [go_sem]
      have h1 : V4.cell? ⟨w2.heap.size, 1, none⟩ = some (.int .i64 R) := by rw [← hV]; simp [go_sem]
      replace d0 := (hX.cells.1 _ _ hld).trans d0
      replace d1 := (hX.cells.1 _ _ hld).trans d1
      replace hld := Nat.lt_of_lt_of_le hld hX.size
      replace hE := hE.trans hX
      clear hV hX x0 xc xf xs
      generalize w2.heap.size = gH at *
      have x0 := Ext.refl V4
      go_wp2_with fail
      go_ret
      exact ⟨rfl, hE⟩

end Go.Proofs.Ytehebhphlaghfaa
