/-
  The walk of the law FnInterference.
-/
import Derived.Test.YtbhhiodbhlhpmaaDrawP
import Derived.Test.YtbhhiodbhlhpmaaDice
import Derived.Test.YtbhhiodbhlhpmaaGreatP
namespace Go.Proofs.Ytbhhiodbhlhpmaa
open Go.RowKit
set_option linter.unusedSimpArgs false
set_option linter.unusedVariables false

set_option maxRecDepth 100000 in
set_option maxHeartbeats 2000000 in
theorem fnInter_walk (a : Option Addr) (n cp : Nat) (w : World) (hB : RowB w w.heap.size a n) :
    Calls Try.prog 16 #[.slice a n cp] w fun e w' => e = .returned (.bool true) ∧ Ext w w' := by
  by_cases hbig : 4096 < n
  · have t1 : decide (4096 < n) = true := by simpa using hbig
    go_enter Try.func16, Try.ntmps16
    go_wp2_with (first | (go_at_call 37; refine (f6big_any a n cp _).mono ?_; rintro e w1 ⟨rfl, rfl⟩; rw [t1]))
    go_ret
    exact ⟨rfl, Ext.refl _⟩
  have t1 : decide (4096 < n) = false := by simpa using hbig
  go_enter Try.func16, Try.ntmps16
  go_upto_region 4 with (first | (go_at_call 37; refine (f6big_any a n cp _).mono ?_; rintro e w1 ⟨rfl, rfl⟩; rw [t1]) | (go_at_call 47; refine (drawInter_any a n cp _ hB (by omega)).mono ?_; rintro e w1 ⟨⟨v0, v1, v2, v3, v4, v5, u0, u1, u2, u3, u4, u5, rfl⟩, x1⟩))
  generalize hV : World.alloc (World.alloc _ _) _ = V
  have hE : Ext w V := by rw [← hV]; exact ((x1.alloc _).alloc _)
  have hlf : w1.heap.size < V.heap.size := by rw [← hV]; simp; try omega
  have f0 : V.cell? ⟨w1.heap.size, 0, none⟩ = some (.int .i64 v0) := by rw [← hV]; simp [go_sem]
  have f1 : V.cell? ⟨w1.heap.size, 1, none⟩ = some (.int .i64 v1) := by rw [← hV]; simp [go_sem]
  have f2 : V.cell? ⟨w1.heap.size, 2, none⟩ = some (.int .i64 v2) := by rw [← hV]; simp [go_sem]
  have f3 : V.cell? ⟨w1.heap.size, 3, none⟩ = some (.int .i64 v3) := by rw [← hV]; simp [go_sem]
  have f4 : V.cell? ⟨w1.heap.size, 4, none⟩ = some (.int .i64 v4) := by rw [← hV]; simp [go_sem]
  have f5 : V.cell? ⟨w1.heap.size, 5, none⟩ = some (.int .i64 v5) := by rw [← hV]; simp [go_sem]
  have hlb : w1.heap.size + 1 < V.heap.size := by rw [← hV]; simp; try omega
  have b0 : V.cell? ⟨w1.heap.size + 1, 0, none⟩ = some (.int .i64 u0) := by rw [← hV]; simp [go_sem]
  have b1 : V.cell? ⟨w1.heap.size + 1, 1, none⟩ = some (.int .i64 u1) := by rw [← hV]; simp [go_sem]
  have b2 : V.cell? ⟨w1.heap.size + 1, 2, none⟩ = some (.int .i64 u2) := by rw [← hV]; simp [go_sem]
  have b3 : V.cell? ⟨w1.heap.size + 1, 3, none⟩ = some (.int .i64 u3) := by rw [← hV]; simp [go_sem]
  have b4 : V.cell? ⟨w1.heap.size + 1, 4, none⟩ = some (.int .i64 u4) := by rw [← hV]; simp [go_sem]
  have b5 : V.cell? ⟨w1.heap.size + 1, 5, none⟩ = some (.int .i64 u5) := by rw [← hV]; simp [go_sem]
  clear hV x1
  generalize w1.heap.size + 1 = gB at *
  generalize w1.heap.size = gA at *
  have x0 := Ext.refl V
  rcases ga_cases v0 v1 v2 v3 v4 v5 u0 u1 u2 u3 u4 u5 with ⟨hm, hc⟩ | ⟨hm, hc, hi⟩ | ⟨hm, hc, k, hk, bk, ⟨m1, i1⟩, h20⟩
  · generalize hM : matC v0 v1 v2 v3 v4 v5 u0 u1 u2 u3 u4 u5 = M at hm
    generalize hC : gaC v0 v1 v2 v3 v4 v5 u0 u1 u2 u3 u4 u5 = C at hc
    have hm2 : (M != 0) = true := by simpa using hm
    have hc2 : (C != 0) = true := by simpa using hc
    go_upto_region 6 with (first | (go_at_call 36; refine (implInterferes_any v0 v1 v2 v3 v4 v5 u0 u1 u2 u3 u4 u5 _).mono ?_; rintro e w2 ⟨rfl, x2⟩; rw [hM]; replace x0 := (by first | exact x0.trans x2 | exact (x0.alloc _).trans x2 | exact ((x0.alloc _).alloc _).trans x2 | exact (((x0.alloc _).alloc _).alloc _).trans x2); clear x2; (try clear xc xf xs); obtain ⟨xc, xf, xs⟩ := x0.cells) | (go_at_call 35; refine (specInterferes_any v0 v1 v2 v3 v4 v5 u0 u1 u2 u3 u4 u5 _).mono ?_; rintro e w2 ⟨rfl, x2⟩; rw [hM]; replace x0 := (by first | exact x0.trans x2 | exact (x0.alloc _).trans x2 | exact ((x0.alloc _).alloc _).trans x2 | exact (((x0.alloc _).alloc _).alloc _).trans x2); clear x2; (try clear xc xf xs); obtain ⟨xc, xf, xs⟩ := x0.cells))
    have hX := x0
    replace f0 := (hX.cells.1 _ _ hlf).trans f0
    replace f1 := (hX.cells.1 _ _ hlf).trans f1
    replace f2 := (hX.cells.1 _ _ hlf).trans f2
    replace f3 := (hX.cells.1 _ _ hlf).trans f3
    replace f4 := (hX.cells.1 _ _ hlf).trans f4
    replace f5 := (hX.cells.1 _ _ hlf).trans f5
    replace hlf := Nat.lt_of_lt_of_le hlf hX.size
    replace b0 := (hX.cells.1 _ _ hlb).trans b0
    replace b1 := (hX.cells.1 _ _ hlb).trans b1
    replace b2 := (hX.cells.1 _ _ hlb).trans b2
    replace b3 := (hX.cells.1 _ _ hlb).trans b3
    replace b4 := (hX.cells.1 _ _ hlb).trans b4
    replace b5 := (hX.cells.1 _ _ hlb).trans b5
    replace hlb := Nat.lt_of_lt_of_le hlb hX.size
    replace hE := hE.trans hX
    clear hX x0 xc xf xs
    have x0 := Ext.refl w2
    go_upto_region 7 with (first | (go_at_call 36; refine (implInterferes_any u0 u1 u2 u3 u4 u5 v0 v1 v2 v3 v4 v5 _).mono ?_; rintro e w2 ⟨rfl, x2⟩; rw [infB_swap v0 v1 v2 v3 v4 v5 u0 u1 u2 u3 u4 u5, matC_swap v0 v1 v2 v3 v4 v5 u0 u1 u2 u3 u4 u5]; rw [hM]; replace x0 := (by first | exact x0.trans x2 | exact (x0.alloc _).trans x2 | exact ((x0.alloc _).alloc _).trans x2 | exact (((x0.alloc _).alloc _).alloc _).trans x2); clear x2; (try clear xc xf xs); obtain ⟨xc, xf, xs⟩ := x0.cells))
    have hX := x0
    replace f0 := (hX.cells.1 _ _ hlf).trans f0
    replace f1 := (hX.cells.1 _ _ hlf).trans f1
    replace f2 := (hX.cells.1 _ _ hlf).trans f2
    replace f3 := (hX.cells.1 _ _ hlf).trans f3
    replace f4 := (hX.cells.1 _ _ hlf).trans f4
    replace f5 := (hX.cells.1 _ _ hlf).trans f5
    replace hlf := Nat.lt_of_lt_of_le hlf hX.size
    replace b0 := (hX.cells.1 _ _ hlb).trans b0
    replace b1 := (hX.cells.1 _ _ hlb).trans b1
    replace b2 := (hX.cells.1 _ _ hlb).trans b2
    replace b3 := (hX.cells.1 _ _ hlb).trans b3
    replace b4 := (hX.cells.1 _ _ hlb).trans b4
    replace b5 := (hX.cells.1 _ _ hlb).trans b5
    replace hlb := Nat.lt_of_lt_of_le hlb hX.size
    replace hE := hE.trans hX
    clear hX x0 xc xf xs
    have x0 := Ext.refl w2
    go_upto_region 9 with (first | (go_at_call 42; refine (implGreatest_any v0 v1 v2 v3 v4 v5 u0 u1 u2 u3 u4 u5 _).mono ?_; rintro e w2 ⟨rfl, x2⟩; rw [hC]; replace x0 := (by first | exact x0.trans x2 | exact (x0.alloc _).trans x2 | exact ((x0.alloc _).alloc _).trans x2 | exact (((x0.alloc _).alloc _).alloc _).trans x2); clear x2; (try clear xc xf xs); obtain ⟨xc, xf, xs⟩ := x0.cells) | (go_at_call 41; refine (specGreatest_any v0 v1 v2 v3 v4 v5 u0 u1 u2 u3 u4 u5 _).mono ?_; rintro e w2 ⟨rfl, x2⟩; rw [hC]; replace x0 := (by first | exact x0.trans x2 | exact (x0.alloc _).trans x2 | exact ((x0.alloc _).alloc _).trans x2 | exact (((x0.alloc _).alloc _).alloc _).trans x2); clear x2; (try clear xc xf xs); obtain ⟨xc, xf, xs⟩ := x0.cells))
    have hX := x0
    replace f0 := (hX.cells.1 _ _ hlf).trans f0
    replace f1 := (hX.cells.1 _ _ hlf).trans f1
    replace f2 := (hX.cells.1 _ _ hlf).trans f2
    replace f3 := (hX.cells.1 _ _ hlf).trans f3
    replace f4 := (hX.cells.1 _ _ hlf).trans f4
    replace f5 := (hX.cells.1 _ _ hlf).trans f5
    replace hlf := Nat.lt_of_lt_of_le hlf hX.size
    replace b0 := (hX.cells.1 _ _ hlb).trans b0
    replace b1 := (hX.cells.1 _ _ hlb).trans b1
    replace b2 := (hX.cells.1 _ _ hlb).trans b2
    replace b3 := (hX.cells.1 _ _ hlb).trans b3
    replace b4 := (hX.cells.1 _ _ hlb).trans b4
    replace b5 := (hX.cells.1 _ _ hlb).trans b5
    replace hlb := Nat.lt_of_lt_of_le hlb hX.size
    replace hE := hE.trans hX
    clear hX x0 xc xf xs
    have x0 := Ext.refl w2
    go_wp2_with fail
    go_ret
    exact ⟨rfl, hE⟩
  · go_upto_region 6 with (first | (go_at_call 36; refine (implInterferes_any v0 v1 v2 v3 v4 v5 u0 u1 u2 u3 u4 u5 _).mono ?_; rintro e w2 ⟨rfl, x2⟩; rw [hm, hi]; replace x0 := (by first | exact x0.trans x2 | exact (x0.alloc _).trans x2 | exact ((x0.alloc _).alloc _).trans x2 | exact (((x0.alloc _).alloc _).alloc _).trans x2); clear x2; (try clear xc xf xs); obtain ⟨xc, xf, xs⟩ := x0.cells) | (go_at_call 35; refine (specInterferes_any v0 v1 v2 v3 v4 v5 u0 u1 u2 u3 u4 u5 _).mono ?_; rintro e w2 ⟨rfl, x2⟩; rw [hm, hi]; replace x0 := (by first | exact x0.trans x2 | exact (x0.alloc _).trans x2 | exact ((x0.alloc _).alloc _).trans x2 | exact (((x0.alloc _).alloc _).alloc _).trans x2); clear x2; (try clear xc xf xs); obtain ⟨xc, xf, xs⟩ := x0.cells))
    have hX := x0
    replace f0 := (hX.cells.1 _ _ hlf).trans f0
    replace f1 := (hX.cells.1 _ _ hlf).trans f1
    replace f2 := (hX.cells.1 _ _ hlf).trans f2
    replace f3 := (hX.cells.1 _ _ hlf).trans f3
    replace f4 := (hX.cells.1 _ _ hlf).trans f4
    replace f5 := (hX.cells.1 _ _ hlf).trans f5
    replace hlf := Nat.lt_of_lt_of_le hlf hX.size
    replace b0 := (hX.cells.1 _ _ hlb).trans b0
    replace b1 := (hX.cells.1 _ _ hlb).trans b1
    replace b2 := (hX.cells.1 _ _ hlb).trans b2
    replace b3 := (hX.cells.1 _ _ hlb).trans b3
    replace b4 := (hX.cells.1 _ _ hlb).trans b4
    replace b5 := (hX.cells.1 _ _ hlb).trans b5
    replace hlb := Nat.lt_of_lt_of_le hlb hX.size
    replace hE := hE.trans hX
    clear hX x0 xc xf xs
    have x0 := Ext.refl w2
    go_upto_region 7 with (first | (go_at_call 36; refine (implInterferes_any u0 u1 u2 u3 u4 u5 v0 v1 v2 v3 v4 v5 _).mono ?_; rintro e w2 ⟨rfl, x2⟩; rw [infB_swap v0 v1 v2 v3 v4 v5 u0 u1 u2 u3 u4 u5, matC_swap v0 v1 v2 v3 v4 v5 u0 u1 u2 u3 u4 u5]; rw [hm, hi]; replace x0 := (by first | exact x0.trans x2 | exact (x0.alloc _).trans x2 | exact ((x0.alloc _).alloc _).trans x2 | exact (((x0.alloc _).alloc _).alloc _).trans x2); clear x2; (try clear xc xf xs); obtain ⟨xc, xf, xs⟩ := x0.cells))
    have hX := x0
    replace f0 := (hX.cells.1 _ _ hlf).trans f0
    replace f1 := (hX.cells.1 _ _ hlf).trans f1
    replace f2 := (hX.cells.1 _ _ hlf).trans f2
    replace f3 := (hX.cells.1 _ _ hlf).trans f3
    replace f4 := (hX.cells.1 _ _ hlf).trans f4
    replace f5 := (hX.cells.1 _ _ hlf).trans f5
    replace hlf := Nat.lt_of_lt_of_le hlf hX.size
    replace b0 := (hX.cells.1 _ _ hlb).trans b0
    replace b1 := (hX.cells.1 _ _ hlb).trans b1
    replace b2 := (hX.cells.1 _ _ hlb).trans b2
    replace b3 := (hX.cells.1 _ _ hlb).trans b3
    replace b4 := (hX.cells.1 _ _ hlb).trans b4
    replace b5 := (hX.cells.1 _ _ hlb).trans b5
    replace hlb := Nat.lt_of_lt_of_le hlb hX.size
    replace hE := hE.trans hX
    clear hX x0 xc xf xs
    have x0 := Ext.refl w2
    go_upto_region 9 with (first | (go_at_call 42; refine (implGreatest_any v0 v1 v2 v3 v4 v5 u0 u1 u2 u3 u4 u5 _).mono ?_; rintro e w2 ⟨rfl, x2⟩; rw [hc]; replace x0 := (by first | exact x0.trans x2 | exact (x0.alloc _).trans x2 | exact ((x0.alloc _).alloc _).trans x2 | exact (((x0.alloc _).alloc _).alloc _).trans x2); clear x2; (try clear xc xf xs); obtain ⟨xc, xf, xs⟩ := x0.cells) | (go_at_call 41; refine (specGreatest_any v0 v1 v2 v3 v4 v5 u0 u1 u2 u3 u4 u5 _).mono ?_; rintro e w2 ⟨rfl, x2⟩; rw [hc]; replace x0 := (by first | exact x0.trans x2 | exact (x0.alloc _).trans x2 | exact ((x0.alloc _).alloc _).trans x2 | exact (((x0.alloc _).alloc _).alloc _).trans x2); clear x2; (try clear xc xf xs); obtain ⟨xc, xf, xs⟩ := x0.cells))
    have hX := x0
    replace f0 := (hX.cells.1 _ _ hlf).trans f0
    replace f1 := (hX.cells.1 _ _ hlf).trans f1
    replace f2 := (hX.cells.1 _ _ hlf).trans f2
    replace f3 := (hX.cells.1 _ _ hlf).trans f3
    replace f4 := (hX.cells.1 _ _ hlf).trans f4
    replace f5 := (hX.cells.1 _ _ hlf).trans f5
    replace hlf := Nat.lt_of_lt_of_le hlf hX.size
    replace b0 := (hX.cells.1 _ _ hlb).trans b0
    replace b1 := (hX.cells.1 _ _ hlb).trans b1
    replace b2 := (hX.cells.1 _ _ hlb).trans b2
    replace b3 := (hX.cells.1 _ _ hlb).trans b3
    replace b4 := (hX.cells.1 _ _ hlb).trans b4
    replace b5 := (hX.cells.1 _ _ hlb).trans b5
    replace hlb := Nat.lt_of_lt_of_le hlb hX.size
    replace hE := hE.trans hX
    clear hX x0 xc xf xs
    have x0 := Ext.refl w2
    go_wp2_with fail
    go_ret
    exact ⟨rfl, hE⟩
  · go_upto_region 6 with (first | (go_at_call 36; refine (implInterferes_any v0 v1 v2 v3 v4 v5 u0 u1 u2 u3 u4 u5 _).mono ?_; rintro e w2 ⟨rfl, x2⟩; rw [hm]; replace x0 := (by first | exact x0.trans x2 | exact (x0.alloc _).trans x2 | exact ((x0.alloc _).alloc _).trans x2 | exact (((x0.alloc _).alloc _).alloc _).trans x2); clear x2; (try clear xc xf xs); obtain ⟨xc, xf, xs⟩ := x0.cells) | (go_at_call 35; refine (specInterferes_any v0 v1 v2 v3 v4 v5 u0 u1 u2 u3 u4 u5 _).mono ?_; rintro e w2 ⟨rfl, x2⟩; rw [hm]; replace x0 := (by first | exact x0.trans x2 | exact (x0.alloc _).trans x2 | exact ((x0.alloc _).alloc _).trans x2 | exact (((x0.alloc _).alloc _).alloc _).trans x2); clear x2; (try clear xc xf xs); obtain ⟨xc, xf, xs⟩ := x0.cells))
    have hX := x0
    replace f0 := (hX.cells.1 _ _ hlf).trans f0
    replace f1 := (hX.cells.1 _ _ hlf).trans f1
    replace f2 := (hX.cells.1 _ _ hlf).trans f2
    replace f3 := (hX.cells.1 _ _ hlf).trans f3
    replace f4 := (hX.cells.1 _ _ hlf).trans f4
    replace f5 := (hX.cells.1 _ _ hlf).trans f5
    replace hlf := Nat.lt_of_lt_of_le hlf hX.size
    replace b0 := (hX.cells.1 _ _ hlb).trans b0
    replace b1 := (hX.cells.1 _ _ hlb).trans b1
    replace b2 := (hX.cells.1 _ _ hlb).trans b2
    replace b3 := (hX.cells.1 _ _ hlb).trans b3
    replace b4 := (hX.cells.1 _ _ hlb).trans b4
    replace b5 := (hX.cells.1 _ _ hlb).trans b5
    replace hlb := Nat.lt_of_lt_of_le hlb hX.size
    replace hE := hE.trans hX
    clear hX x0 xc xf xs
    have x0 := Ext.refl w2
    go_upto_region 7 with (first | (go_at_call 36; refine (implInterferes_any u0 u1 u2 u3 u4 u5 v0 v1 v2 v3 v4 v5 _).mono ?_; rintro e w2 ⟨rfl, x2⟩; rw [infB_swap v0 v1 v2 v3 v4 v5 u0 u1 u2 u3 u4 u5, matC_swap v0 v1 v2 v3 v4 v5 u0 u1 u2 u3 u4 u5]; rw [hm]; replace x0 := (by first | exact x0.trans x2 | exact (x0.alloc _).trans x2 | exact ((x0.alloc _).alloc _).trans x2 | exact (((x0.alloc _).alloc _).alloc _).trans x2); clear x2; (try clear xc xf xs); obtain ⟨xc, xf, xs⟩ := x0.cells))
    have hX := x0
    replace f0 := (hX.cells.1 _ _ hlf).trans f0
    replace f1 := (hX.cells.1 _ _ hlf).trans f1
    replace f2 := (hX.cells.1 _ _ hlf).trans f2
    replace f3 := (hX.cells.1 _ _ hlf).trans f3
    replace f4 := (hX.cells.1 _ _ hlf).trans f4
    replace f5 := (hX.cells.1 _ _ hlf).trans f5
    replace hlf := Nat.lt_of_lt_of_le hlf hX.size
    replace b0 := (hX.cells.1 _ _ hlb).trans b0
    replace b1 := (hX.cells.1 _ _ hlb).trans b1
    replace b2 := (hX.cells.1 _ _ hlb).trans b2
    replace b3 := (hX.cells.1 _ _ hlb).trans b3
    replace b4 := (hX.cells.1 _ _ hlb).trans b4
    replace b5 := (hX.cells.1 _ _ hlb).trans b5
    replace hlb := Nat.lt_of_lt_of_le hlb hX.size
    replace hE := hE.trans hX
    clear hX x0 xc xf xs
    have x0 := Ext.refl w2
    go_upto_region 9 with (first | (go_at_call 42; refine (implGreatest_any v0 v1 v2 v3 v4 v5 u0 u1 u2 u3 u4 u5 _).mono ?_; rintro e w2 ⟨rfl, x2⟩; rw [hc, hk]; replace x0 := (by first | exact x0.trans x2 | exact (x0.alloc _).trans x2 | exact ((x0.alloc _).alloc _).trans x2 | exact (((x0.alloc _).alloc _).alloc _).trans x2); clear x2; (try clear xc xf xs); obtain ⟨xc, xf, xs⟩ := x0.cells) | (go_at_call 41; refine (specGreatest_any v0 v1 v2 v3 v4 v5 u0 u1 u2 u3 u4 u5 _).mono ?_; rintro e w2 ⟨rfl, x2⟩; rw [hc, hk]; replace x0 := (by first | exact x0.trans x2 | exact (x0.alloc _).trans x2 | exact ((x0.alloc _).alloc _).trans x2 | exact (((x0.alloc _).alloc _).alloc _).trans x2); clear x2; (try clear xc xf xs); obtain ⟨xc, xf, xs⟩ := x0.cells))
    have hX := x0
    replace f0 := (hX.cells.1 _ _ hlf).trans f0
    replace f1 := (hX.cells.1 _ _ hlf).trans f1
    replace f2 := (hX.cells.1 _ _ hlf).trans f2
    replace f3 := (hX.cells.1 _ _ hlf).trans f3
    replace f4 := (hX.cells.1 _ _ hlf).trans f4
    replace f5 := (hX.cells.1 _ _ hlf).trans f5
    replace hlf := Nat.lt_of_lt_of_le hlf hX.size
    replace b0 := (hX.cells.1 _ _ hlb).trans b0
    replace b1 := (hX.cells.1 _ _ hlb).trans b1
    replace b2 := (hX.cells.1 _ _ hlb).trans b2
    replace b3 := (hX.cells.1 _ _ hlb).trans b3
    replace b4 := (hX.cells.1 _ _ hlb).trans b4
    replace b5 := (hX.cells.1 _ _ hlb).trans b5
    replace hlb := Nat.lt_of_lt_of_le hlb hX.size
    replace hE := hE.trans hX
    clear hX x0 xc xf xs
    have x0 := Ext.refl w2
    go_upto_region 15 with fail
    generalize hV : World.alloc (World.alloc _ _) _ = V3
    have hX : Ext w2 V3 := by rw [← hV]; exact ((Ext.refl _).alloc _).alloc _
    have hwx : w.heap.size ≤ w2.heap.size := hE.size
    have hwy : w.heap.size ≤ w2.heap.size + 1 := by omega
    have hxy : w2.heap.size ≠ w2.heap.size + 1 := by omega
    have hyx : w2.heap.size + 1 ≠ w2.heap.size := by omega
    have p0 : V3.cell? ⟨w2.heap.size, 0, none⟩ = some (.int .i64 v0) := by rw [← hV]; simp [go_sem]
    have p1 : V3.cell? ⟨w2.heap.size, 1, none⟩ = some (.int .i64 v1) := by rw [← hV]; simp [go_sem]
    have p2 : V3.cell? ⟨w2.heap.size, 2, none⟩ = some (.int .i64 v2) := by rw [← hV]; simp [go_sem]
    have p3 : V3.cell? ⟨w2.heap.size, 3, none⟩ = some (.int .i64 v3) := by rw [← hV]; simp [go_sem]
    have p4 : V3.cell? ⟨w2.heap.size, 4, none⟩ = some (.int .i64 v4) := by rw [← hV]; simp [go_sem]
    have p5 : V3.cell? ⟨w2.heap.size, 5, none⟩ = some (.int .i64 v5) := by rw [← hV]; simp [go_sem]
    have pz : V3.frozen? ⟨w2.heap.size, 2, none⟩ = false := by rw [← hV]; simp
    have r0 : V3.cell? ⟨w2.heap.size + 1, 0, none⟩ = some (.int .i64 u0) := by rw [← hV]; simp [go_sem]
    have r1 : V3.cell? ⟨w2.heap.size + 1, 1, none⟩ = some (.int .i64 u1) := by rw [← hV]; simp [go_sem]
    have r2 : V3.cell? ⟨w2.heap.size + 1, 2, none⟩ = some (.int .i64 u2) := by rw [← hV]; simp [go_sem]
    have r3 : V3.cell? ⟨w2.heap.size + 1, 3, none⟩ = some (.int .i64 u3) := by rw [← hV]; simp [go_sem]
    have r4 : V3.cell? ⟨w2.heap.size + 1, 4, none⟩ = some (.int .i64 u4) := by rw [← hV]; simp [go_sem]
    have r5 : V3.cell? ⟨w2.heap.size + 1, 5, none⟩ = some (.int .i64 u5) := by rw [← hV]; simp [go_sem]
    have rz : V3.frozen? ⟨w2.heap.size + 1, 2, none⟩ = false := by rw [← hV]; simp
    replace hE := hE.trans hX
    clear hV hX x0 f0 f1 f2 f3 f4 f5 b0 b1 b2 b3 b4 b5 hlf hlb
    generalize w2.heap.size + 1 = gR at *
    generalize w2.heap.size = gP at *
    go_upto_region 17 with fail
    generalize hV : World.setCell _ _ _ = V4
    have np0 : V4.cell? ⟨gP, 0, none⟩ = some (.int .i64 v0) := by rw [← hV]; simp [go_sem, p0, p1, p2, p3, p4, p5, r0, r1, r2, r3, r4, r5, hxy, hyx]
    have np1 : V4.cell? ⟨gP, 1, none⟩ = some (.int .i64 v1) := by rw [← hV]; simp [go_sem, p0, p1, p2, p3, p4, p5, r0, r1, r2, r3, r4, r5, hxy, hyx]
    have np2 : V4.cell? ⟨gP, 2, none⟩ = some (.int .i64 k) := by rw [← hV]; simp [go_sem, p0, p1, p2, p3, p4, p5, r0, r1, r2, r3, r4, r5, hxy, hyx]
    have np3 : V4.cell? ⟨gP, 3, none⟩ = some (.int .i64 v3) := by rw [← hV]; simp [go_sem, p0, p1, p2, p3, p4, p5, r0, r1, r2, r3, r4, r5, hxy, hyx]
    have np4 : V4.cell? ⟨gP, 4, none⟩ = some (.int .i64 v4) := by rw [← hV]; simp [go_sem, p0, p1, p2, p3, p4, p5, r0, r1, r2, r3, r4, r5, hxy, hyx]
    have np5 : V4.cell? ⟨gP, 5, none⟩ = some (.int .i64 v5) := by rw [← hV]; simp [go_sem, p0, p1, p2, p3, p4, p5, r0, r1, r2, r3, r4, r5, hxy, hyx]
    have npz : V4.frozen? ⟨gP, 2, none⟩ = false := by rw [← hV]; simp [pz, rz]
    have nr0 : V4.cell? ⟨gR, 0, none⟩ = some (.int .i64 u0) := by rw [← hV]; simp [go_sem, p0, p1, p2, p3, p4, p5, r0, r1, r2, r3, r4, r5, hxy, hyx]
    have nr1 : V4.cell? ⟨gR, 1, none⟩ = some (.int .i64 u1) := by rw [← hV]; simp [go_sem, p0, p1, p2, p3, p4, p5, r0, r1, r2, r3, r4, r5, hxy, hyx]
    have nr2 : V4.cell? ⟨gR, 2, none⟩ = some (.int .i64 k) := by rw [← hV]; simp [go_sem, p0, p1, p2, p3, p4, p5, r0, r1, r2, r3, r4, r5, hxy, hyx]
    have nr3 : V4.cell? ⟨gR, 3, none⟩ = some (.int .i64 u3) := by rw [← hV]; simp [go_sem, p0, p1, p2, p3, p4, p5, r0, r1, r2, r3, r4, r5, hxy, hyx]
    have nr4 : V4.cell? ⟨gR, 4, none⟩ = some (.int .i64 u4) := by rw [← hV]; simp [go_sem, p0, p1, p2, p3, p4, p5, r0, r1, r2, r3, r4, r5, hxy, hyx]
    have nr5 : V4.cell? ⟨gR, 5, none⟩ = some (.int .i64 u5) := by rw [← hV]; simp [go_sem, p0, p1, p2, p3, p4, p5, r0, r1, r2, r3, r4, r5, hxy, hyx]
    have nrz : V4.frozen? ⟨gR, 2, none⟩ = false := by rw [← hV]; simp [pz, rz]
    replace hE : Ext w V4 := by rw [← hV]; exact (hE.setCell hwx _).setCell hwy _
    clear hV p0 p1 p2 p3 p4 p5 r0 r1 r2 r3 r4 r5 pz rz
    have p0 := np0
    have p1 := np1
    have p2 := np2
    have p3 := np3
    have p4 := np4
    have p5 := np5
    have pz := npz
    have r0 := nr0
    have r1 := nr1
    have r2 := nr2
    have r3 := nr3
    have r4 := nr4
    have r5 := nr5
    have rz := nrz
    clear np0 np1 np2 np3 np4 np5 nr0 nr1 nr2 nr3 nr4 nr5 npz nrz
    have hlp : gP < V4.heap.size := World.block_lt_of_cell? _ _ p0
    have hlr : gR < V4.heap.size := World.block_lt_of_cell? _ _ r0
    have xx0 := Ext.refl V4
    go_upto_region 18 with (first | (go_at_call 36; refine (implInterferes_any v0 v1 k v3 v4 v5 u0 u1 k u3 u4 u5 _).mono ?_; rintro e w3 ⟨rfl, x9⟩; rw [m1, i1]; skip))
    replace hE := hE.trans x9
    replace p0 := (x9.cells.1 _ _ hlp).trans p0
    replace p1 := (x9.cells.1 _ _ hlp).trans p1
    replace p2 := (x9.cells.1 _ _ hlp).trans p2
    replace p3 := (x9.cells.1 _ _ hlp).trans p3
    replace p4 := (x9.cells.1 _ _ hlp).trans p4
    replace p5 := (x9.cells.1 _ _ hlp).trans p5
    replace pz := (x9.cells.2.1 _ _ hlp).trans pz
    replace r0 := (x9.cells.1 _ _ hlr).trans r0
    replace r1 := (x9.cells.1 _ _ hlr).trans r1
    replace r2 := (x9.cells.1 _ _ hlr).trans r2
    replace r3 := (x9.cells.1 _ _ hlr).trans r3
    replace r4 := (x9.cells.1 _ _ hlr).trans r4
    replace r5 := (x9.cells.1 _ _ hlr).trans r5
    replace rz := (x9.cells.2.1 _ _ hlr).trans rz
    clear x9 xx0
    by_cases h2 : k = 20
    · have h3 : (k == 20) = true := by simpa using h2
      subst h2
      go_wp2_with fail
      go_ret
      exact ⟨rfl, hE⟩
    · have h3 : (k == 20) = false := by simpa using h2
      obtain ⟨m2, i2⟩ := h20 h2
      have q1 : IntKind.i64.wrap (k + 1) = k + 1 := IntWalk.i64_in _ (by omega)
      go_upto_region 22 with fail
      generalize hV : World.setCell _ _ _ = V5
      have np0 : V5.cell? ⟨gP, 0, none⟩ = some (.int .i64 v0) := by rw [← hV]; simp [go_sem, p0, p1, p2, p3, p4, p5, r0, r1, r2, r3, r4, r5, hxy, hyx]
      have np1 : V5.cell? ⟨gP, 1, none⟩ = some (.int .i64 v1) := by rw [← hV]; simp [go_sem, p0, p1, p2, p3, p4, p5, r0, r1, r2, r3, r4, r5, hxy, hyx]
      have np2 : V5.cell? ⟨gP, 2, none⟩ = some (.int .i64 (k + 1)) := by rw [← hV]; simp [go_sem, p0, p1, p2, p3, p4, p5, r0, r1, r2, r3, r4, r5, hxy, hyx]
      have np3 : V5.cell? ⟨gP, 3, none⟩ = some (.int .i64 v3) := by rw [← hV]; simp [go_sem, p0, p1, p2, p3, p4, p5, r0, r1, r2, r3, r4, r5, hxy, hyx]
      have np4 : V5.cell? ⟨gP, 4, none⟩ = some (.int .i64 v4) := by rw [← hV]; simp [go_sem, p0, p1, p2, p3, p4, p5, r0, r1, r2, r3, r4, r5, hxy, hyx]
      have np5 : V5.cell? ⟨gP, 5, none⟩ = some (.int .i64 v5) := by rw [← hV]; simp [go_sem, p0, p1, p2, p3, p4, p5, r0, r1, r2, r3, r4, r5, hxy, hyx]
      have npz : V5.frozen? ⟨gP, 2, none⟩ = false := by rw [← hV]; simp [pz, rz]
      have nr0 : V5.cell? ⟨gR, 0, none⟩ = some (.int .i64 u0) := by rw [← hV]; simp [go_sem, p0, p1, p2, p3, p4, p5, r0, r1, r2, r3, r4, r5, hxy, hyx]
      have nr1 : V5.cell? ⟨gR, 1, none⟩ = some (.int .i64 u1) := by rw [← hV]; simp [go_sem, p0, p1, p2, p3, p4, p5, r0, r1, r2, r3, r4, r5, hxy, hyx]
      have nr2 : V5.cell? ⟨gR, 2, none⟩ = some (.int .i64 (k + 1)) := by rw [← hV]; simp [go_sem, p0, p1, p2, p3, p4, p5, r0, r1, r2, r3, r4, r5, hxy, hyx]
      have nr3 : V5.cell? ⟨gR, 3, none⟩ = some (.int .i64 u3) := by rw [← hV]; simp [go_sem, p0, p1, p2, p3, p4, p5, r0, r1, r2, r3, r4, r5, hxy, hyx]
      have nr4 : V5.cell? ⟨gR, 4, none⟩ = some (.int .i64 u4) := by rw [← hV]; simp [go_sem, p0, p1, p2, p3, p4, p5, r0, r1, r2, r3, r4, r5, hxy, hyx]
      have nr5 : V5.cell? ⟨gR, 5, none⟩ = some (.int .i64 u5) := by rw [← hV]; simp [go_sem, p0, p1, p2, p3, p4, p5, r0, r1, r2, r3, r4, r5, hxy, hyx]
      have nrz : V5.frozen? ⟨gR, 2, none⟩ = false := by rw [← hV]; simp [pz, rz]
      replace hE : Ext w V5 := by rw [← hV]; exact (hE.setCell hwx _).setCell hwy _
      clear hV p0 p1 p2 p3 p4 p5 r0 r1 r2 r3 r4 r5 pz rz
      have p0 := np0
      have p1 := np1
      have p2 := np2
      have p3 := np3
      have p4 := np4
      have p5 := np5
      have pz := npz
      have r0 := nr0
      have r1 := nr1
      have r2 := nr2
      have r3 := nr3
      have r4 := nr4
      have r5 := nr5
      have rz := nrz
      clear np0 np1 np2 np3 np4 np5 nr0 nr1 nr2 nr3 nr4 nr5 npz nrz
      have hlp : gP < V5.heap.size := World.block_lt_of_cell? _ _ p0
      have hlr : gR < V5.heap.size := World.block_lt_of_cell? _ _ r0
      have xx0 := Ext.refl V5
      go_upto_region 23 with (first | (go_at_call 36; refine (implInterferes_any v0 v1 (k + 1) v3 v4 v5 u0 u1 (k + 1) u3 u4 u5 _).mono ?_; rintro e w3 ⟨rfl, x9⟩; rw [m2, i2]; skip))
      replace hE := hE.trans x9
      clear x9 xx0
      go_wp2_with fail
      go_ret
      exact ⟨rfl, hE⟩
end Go.Proofs.Ytbhhiodbhlhpmaa
