/-
  What the law FnContacts draws, and its walk.
-/
import Derived.Test.YtbhhiodbhlhpmaaDrawP
import Derived.Test.YtbhhiodbhlhpmaaDice
import Derived.Test.YtbhhiodbhlhpmaaCont
namespace Go.Proofs.Ytbhhiodbhlhpmaa
open Go.RowKit
set_option linter.unusedSimpArgs false
set_option linter.unusedVariables false

set_option maxRecDepth 100000 in
set_option maxHeartbeats 2000000 in
theorem drawCont_any (a : Option Addr) (n cp : Nat) (w : World) (hB0 : RowB w w.heap.size a n) (hn : n ≤ 1048576) :
    Calls Try.prog 46 #[.slice a n cp] w fun e w' => (∃ v0 v1 v2 v3 v4 v5 u0 u1 u2 u3 u4 u5, e = .returned (.tuple #[.agg #[.int .i64 v0, .int .i64 v1, .int .i64 v2, .int .i64 v3, .int .i64 v4, .int .i64 v5], .agg #[.int .i64 u0, .int .i64 u1, .int .i64 u2, .int .i64 u3, .int .i64 u4, .int .i64 u5]])) ∧ Ext w w' := by
  go_enter Try.func46, Try.ntmps46
  go_upto_region 1 with fail
  generalize hW : World.alloc (World.alloc _ _) _ = W
  have xW : Ext w W := by rw [← hW]; exact ((Ext.refl _).alloc _).alloc _
  have hlr : w.heap.size < W.heap.size := by rw [← hW]; simp; try omega
  have r0 : W.cell? ⟨w.heap.size, 0, none⟩ = some (.int .i64 0) := by rw [← hW]; simp [go_sem]
  have rz0 : W.frozen? ⟨w.heap.size, 0, none⟩ = false := by rw [← hW]; simp
  have r1 : W.cell? ⟨w.heap.size, 1, none⟩ = some (.int .i64 0) := by rw [← hW]; simp [go_sem]
  have rz1 : W.frozen? ⟨w.heap.size, 1, none⟩ = false := by rw [← hW]; simp
  have r2 : W.cell? ⟨w.heap.size, 2, none⟩ = some (.int .i64 0) := by rw [← hW]; simp [go_sem]
  have rz2 : W.frozen? ⟨w.heap.size, 2, none⟩ = false := by rw [← hW]; simp
  have r3 : W.cell? ⟨w.heap.size, 3, none⟩ = some (.int .i64 0) := by rw [← hW]; simp [go_sem]
  have rz3 : W.frozen? ⟨w.heap.size, 3, none⟩ = false := by rw [← hW]; simp
  have r4 : W.cell? ⟨w.heap.size, 4, none⟩ = some (.int .i64 0) := by rw [← hW]; simp [go_sem]
  have rz4 : W.frozen? ⟨w.heap.size, 4, none⟩ = false := by rw [← hW]; simp
  have r5 : W.cell? ⟨w.heap.size, 5, none⟩ = some (.int .i64 0) := by rw [← hW]; simp [go_sem]
  have rz5 : W.frozen? ⟨w.heap.size, 5, none⟩ = false := by rw [← hW]; simp
  have hlt : w.heap.size + 1 < W.heap.size := by rw [← hW]; simp; try omega
  have t0 : W.cell? ⟨w.heap.size + 1, 0, none⟩ = some (.int .i64 0) := by rw [← hW]; simp [go_sem]
  have tz0 : W.frozen? ⟨w.heap.size + 1, 0, none⟩ = false := by rw [← hW]; simp
  have t1 : W.cell? ⟨w.heap.size + 1, 1, none⟩ = some (.int .i64 0) := by rw [← hW]; simp [go_sem]
  have tz1 : W.frozen? ⟨w.heap.size + 1, 1, none⟩ = false := by rw [← hW]; simp
  have t2 : W.cell? ⟨w.heap.size + 1, 2, none⟩ = some (.int .i64 0) := by rw [← hW]; simp [go_sem]
  have tz2 : W.frozen? ⟨w.heap.size + 1, 2, none⟩ = false := by rw [← hW]; simp
  have t3 : W.cell? ⟨w.heap.size + 1, 3, none⟩ = some (.int .i64 0) := by rw [← hW]; simp [go_sem]
  have tz3 : W.frozen? ⟨w.heap.size + 1, 3, none⟩ = false := by rw [← hW]; simp
  have t4 : W.cell? ⟨w.heap.size + 1, 4, none⟩ = some (.int .i64 0) := by rw [← hW]; simp [go_sem]
  have tz4 : W.frozen? ⟨w.heap.size + 1, 4, none⟩ = false := by rw [← hW]; simp
  have t5 : W.cell? ⟨w.heap.size + 1, 5, none⟩ = some (.int .i64 0) := by rw [← hW]; simp [go_sem]
  have tz5 : W.frozen? ⟨w.heap.size + 1, 5, none⟩ = false := by rw [← hW]; simp
  clear hW
  go_wp2_with (first | (go_at_call 70; refine (l00From_any a n cp _).mono ?_; rintro e w1 ⟨rfl, hS, x1⟩; have hB := hB0.to (g' := W.heap.size) (xW.trans x1) xW.size) | (go_at_call 81; refine (drawPair_any W.heap.size n cp 0 a _ hS hB (by omega) hn).mono ?_; rintro e w2 ⟨⟨v0, v1, v2, v3, v4, v5, u0, u1, u2, u3, u4, u5, rfl⟩, hS2, hWc⟩; have x2 : Ext W w2 := Wrote.ext x1 hWc (fun k hk => by injection hk; omega); have kr : ∀ o, w2.cell? ⟨w.heap.size, o, none⟩ = W.cell? ⟨w.heap.size, o, none⟩ := (fun o => x2.cells.1 _ _ hlr); have kzr : ∀ o, w2.frozen? ⟨w.heap.size, o, none⟩ = W.frozen? ⟨w.heap.size, o, none⟩ := (fun o => x2.cells.2.1 _ _ hlr); have kt : ∀ o, w2.cell? ⟨w.heap.size + 1, o, none⟩ = W.cell? ⟨w.heap.size + 1, o, none⟩ := (fun o => x2.cells.1 _ _ hlt); have kzt : ∀ o, w2.frozen? ⟨w.heap.size + 1, o, none⟩ = W.frozen? ⟨w.heap.size + 1, o, none⟩ := (fun o => x2.cells.2.1 _ _ hlt)))
  generalize hU : World.setCell _ _ _ = U9
  have hW9 : Ext w U9 := by rw [← hU]; (repeat (first | (with_reducible refine Ext.drew ?_) | (with_reducible refine Ext.setCell ?_ ?_ _; rotate_left; focus (first | (simp; done) | (simp; omega) | omega)))); exact xW.trans x2
  have nr0 : U9.cell? ⟨w.heap.size, 0, none⟩ = some (.int .i64 v0) := by rw [← hU]; ((repeat (first | (with_reducible refine cell_drew ?_) | (with_reducible refine cell_same ?_) | (with_reducible refine keep_other ?_ ?_; focus (first | assumption | omega)) | (with_reducible refine cell_off ?_ ?_; focus decide))); (repeat (first | (with_reducible refine some_drew ?_) | (with_reducible refine some_other ?_)))); rw [kr, r0]; rfl
  have nr1 : U9.cell? ⟨w.heap.size, 1, none⟩ = some (.int .i64 v1) := by rw [← hU]; ((repeat (first | (with_reducible refine cell_drew ?_) | (with_reducible refine cell_same ?_) | (with_reducible refine keep_other ?_ ?_; focus (first | assumption | omega)) | (with_reducible refine cell_off ?_ ?_; focus decide))); (repeat (first | (with_reducible refine some_drew ?_) | (with_reducible refine some_other ?_)))); rw [kr, r1]; rfl
  have nr2 : U9.cell? ⟨w.heap.size, 2, none⟩ = some (.int .i64 v2) := by rw [← hU]; ((repeat (first | (with_reducible refine cell_drew ?_) | (with_reducible refine cell_same ?_) | (with_reducible refine keep_other ?_ ?_; focus (first | assumption | omega)) | (with_reducible refine cell_off ?_ ?_; focus decide))); (repeat (first | (with_reducible refine some_drew ?_) | (with_reducible refine some_other ?_)))); rw [kr, r2]; rfl
  have nr3 : U9.cell? ⟨w.heap.size, 3, none⟩ = some (.int .i64 v3) := by rw [← hU]; ((repeat (first | (with_reducible refine cell_drew ?_) | (with_reducible refine cell_same ?_) | (with_reducible refine keep_other ?_ ?_; focus (first | assumption | omega)) | (with_reducible refine cell_off ?_ ?_; focus decide))); (repeat (first | (with_reducible refine some_drew ?_) | (with_reducible refine some_other ?_)))); rw [kr, r3]; rfl
  have nr4 : U9.cell? ⟨w.heap.size, 4, none⟩ = some (.int .i64 v4) := by rw [← hU]; ((repeat (first | (with_reducible refine cell_drew ?_) | (with_reducible refine cell_same ?_) | (with_reducible refine keep_other ?_ ?_; focus (first | assumption | omega)) | (with_reducible refine cell_off ?_ ?_; focus decide))); (repeat (first | (with_reducible refine some_drew ?_) | (with_reducible refine some_other ?_)))); rw [kr, r4]; rfl
  have nr5 : U9.cell? ⟨w.heap.size, 5, none⟩ = some (.int .i64 v5) := by rw [← hU]; ((repeat (first | (with_reducible refine cell_drew ?_) | (with_reducible refine cell_same ?_) | (with_reducible refine keep_other ?_ ?_; focus (first | assumption | omega)) | (with_reducible refine cell_off ?_ ?_; focus decide))); (repeat (first | (with_reducible refine some_drew ?_) | (with_reducible refine some_other ?_)))); rw [kr, r5]; rfl
  have nt0 : U9.cell? ⟨w.heap.size + 1, 0, none⟩ = some (.int .i64 u0) := by rw [← hU]; ((repeat (first | (with_reducible refine cell_drew ?_) | (with_reducible refine cell_same ?_) | (with_reducible refine keep_other ?_ ?_; focus (first | assumption | omega)) | (with_reducible refine cell_off ?_ ?_; focus decide))); (repeat (first | (with_reducible refine some_drew ?_) | (with_reducible refine some_other ?_)))); rw [kt, t0]; rfl
  have nt1 : U9.cell? ⟨w.heap.size + 1, 1, none⟩ = some (.int .i64 u1) := by rw [← hU]; ((repeat (first | (with_reducible refine cell_drew ?_) | (with_reducible refine cell_same ?_) | (with_reducible refine keep_other ?_ ?_; focus (first | assumption | omega)) | (with_reducible refine cell_off ?_ ?_; focus decide))); (repeat (first | (with_reducible refine some_drew ?_) | (with_reducible refine some_other ?_)))); rw [kt, t1]; rfl
  have nt2 : U9.cell? ⟨w.heap.size + 1, 2, none⟩ = some (.int .i64 u2) := by rw [← hU]; ((repeat (first | (with_reducible refine cell_drew ?_) | (with_reducible refine cell_same ?_) | (with_reducible refine keep_other ?_ ?_; focus (first | assumption | omega)) | (with_reducible refine cell_off ?_ ?_; focus decide))); (repeat (first | (with_reducible refine some_drew ?_) | (with_reducible refine some_other ?_)))); rw [kt, t2]; rfl
  have nt3 : U9.cell? ⟨w.heap.size + 1, 3, none⟩ = some (.int .i64 u3) := by rw [← hU]; ((repeat (first | (with_reducible refine cell_drew ?_) | (with_reducible refine cell_same ?_) | (with_reducible refine keep_other ?_ ?_; focus (first | assumption | omega)) | (with_reducible refine cell_off ?_ ?_; focus decide))); (repeat (first | (with_reducible refine some_drew ?_) | (with_reducible refine some_other ?_)))); rw [kt, t3]; rfl
  have nt4 : U9.cell? ⟨w.heap.size + 1, 4, none⟩ = some (.int .i64 u4) := by rw [← hU]; ((repeat (first | (with_reducible refine cell_drew ?_) | (with_reducible refine cell_same ?_) | (with_reducible refine keep_other ?_ ?_; focus (first | assumption | omega)) | (with_reducible refine cell_off ?_ ?_; focus decide))); (repeat (first | (with_reducible refine some_drew ?_) | (with_reducible refine some_other ?_)))); rw [kt, t4]; rfl
  have nt5 : U9.cell? ⟨w.heap.size + 1, 5, none⟩ = some (.int .i64 u5) := by rw [← hU]; ((repeat (first | (with_reducible refine cell_drew ?_) | (with_reducible refine cell_same ?_) | (with_reducible refine keep_other ?_ ?_; focus (first | assumption | omega)) | (with_reducible refine cell_off ?_ ?_; focus decide))); (repeat (first | (with_reducible refine some_drew ?_) | (with_reducible refine some_other ?_)))); rw [kt, t5]; rfl
  clear hU
  refine bodyPost_ret (v := ?_) ?_ rfl ?_
  all_goals try (simp [results, Try.results46, go_sem, nr0, nr1, nr2, nr3, nr4, nr5, nt0, nt1, nt2, nt3, nt4, nt5]; exact rfl)
  exact ⟨⟨_, _, _, _, _, _, _, _, _, _, _, _, rfl⟩, hW9⟩

set_option maxRecDepth 100000 in
set_option maxHeartbeats 2000000 in
theorem fnContacts_walk (a : Option Addr) (n cp : Nat) (w : World) (hB : RowB w w.heap.size a n) :
    Calls Try.prog 15 #[.slice a n cp] w fun e w' => e = .returned (.bool true) ∧ Ext w w' := by
  by_cases hbig : 4096 < n
  · have t1 : decide (4096 < n) = true := by simpa using hbig
    go_enter Try.func15, Try.ntmps15
    go_wp2_with (first | (go_at_call 37; refine (f6big_any a n cp _).mono ?_; rintro e w1 ⟨rfl, rfl⟩; rw [t1]))
    go_ret
    exact ⟨rfl, Ext.refl _⟩
  have t1 : decide (4096 < n) = false := by simpa using hbig
  go_enter Try.func15, Try.ntmps15
  go_upto_region 4 with (first | (go_at_call 37; refine (f6big_any a n cp _).mono ?_; rintro e w1 ⟨rfl, rfl⟩; rw [t1]) | (go_at_call 46; refine (drawCont_any a n cp _ hB (by omega)).mono ?_; rintro e w1 ⟨⟨v0, v1, v2, v3, v4, v5, u0, u1, u2, u3, u4, u5, rfl⟩, x1⟩))
  generalize hV : World.alloc (World.alloc _ _) _ = V
  have hE : Ext w V := by rw [← hV]; exact ((x1.alloc _).alloc _)
  have hlf : w1.heap.size < V.heap.size := by rw [← hV]; simp; try omega
  have f0 : V.cell? ⟨w1.heap.size, 0, none⟩ = some (.int .i64 v0) := by rw [← hV]; simp [go_sem]
  have f1 : V.cell? ⟨w1.heap.size, 1, none⟩ = some (.int .i64 v1) := by rw [← hV]; simp [go_sem]
  have f2 : V.cell? ⟨w1.heap.size, 2, none⟩ = some (.int .i64 v2) := by rw [← hV]; simp [go_sem]
  have f3 : V.cell? ⟨w1.heap.size, 3, none⟩ = some (.int .i64 v3) := by rw [← hV]; simp [go_sem]
  have f4 : V.cell? ⟨w1.heap.size, 4, none⟩ = some (.int .i64 v4) := by rw [← hV]; simp [go_sem]
  have f5 : V.cell? ⟨w1.heap.size, 5, none⟩ = some (.int .i64 v5) := by rw [← hV]; simp [go_sem]
  have hlb : w1.heap.size + 1 < V.heap.size := by rw [← hV]; simp; try omega
  have b0 : V.cell? ⟨w1.heap.size + 1, 0, none⟩ = some (.int .i64 u0) := by rw [← hV]; simp [go_sem]
  have b1 : V.cell? ⟨w1.heap.size + 1, 1, none⟩ = some (.int .i64 u1) := by rw [← hV]; simp [go_sem]
  have b2 : V.cell? ⟨w1.heap.size + 1, 2, none⟩ = some (.int .i64 u2) := by rw [← hV]; simp [go_sem]
  have b3 : V.cell? ⟨w1.heap.size + 1, 3, none⟩ = some (.int .i64 u3) := by rw [← hV]; simp [go_sem]
  have b4 : V.cell? ⟨w1.heap.size + 1, 4, none⟩ = some (.int .i64 u4) := by rw [← hV]; simp [go_sem]
  have b5 : V.cell? ⟨w1.heap.size + 1, 5, none⟩ = some (.int .i64 u5) := by rw [← hV]; simp [go_sem]
  clear hV x1
  generalize w1.heap.size + 1 = gB at *
  generalize w1.heap.size = gA at *
  have x0 := Ext.refl V
  have hcs := cb_cases v0 v1 v2 v3 v4 v5 u0 u1 u2 u3 u4 u5
  generalize hL : cbL v0 v1 v2 v3 v4 v5 u0 u1 u2 u3 u4 u5 = L at hcs
  generalize hH : cbH v0 v1 v2 v3 v4 v5 u0 u1 u2 u3 u4 u5 = H at hcs
  rcases hcs with hm | ⟨hm, ha, h1, h2, h3⟩
  · generalize hM : matC v0 v1 v2 v3 v4 v5 u0 u1 u2 u3 u4 u5 = M at hm
    have hm2 : (M != 0) = true := by simpa using hm
    go_upto_region 6 with (first | (go_at_call 45; refine (implContact_any v0 v1 v2 v3 v4 v5 u0 u1 u2 u3 u4 u5 _).mono ?_; rintro e w2 ⟨rfl, x2⟩; rw [hM, hL, hH]; replace x0 := (by first | exact x0.trans x2 | exact (x0.alloc _).trans x2 | exact ((x0.alloc _).alloc _).trans x2 | exact (((x0.alloc _).alloc _).alloc _).trans x2); clear x2; (try clear xc xf xs); obtain ⟨xc, xf, xs⟩ := x0.cells) | (go_at_call 44; refine (specContact_any v0 v1 v2 v3 v4 v5 u0 u1 u2 u3 u4 u5 _).mono ?_; rintro e w2 ⟨rfl, x2⟩; rw [hM, hL, hH]; replace x0 := (by first | exact x0.trans x2 | exact (x0.alloc _).trans x2 | exact ((x0.alloc _).alloc _).trans x2 | exact (((x0.alloc _).alloc _).alloc _).trans x2); clear x2; (try clear xc xf xs); obtain ⟨xc, xf, xs⟩ := x0.cells))
    have hX := x0
    replace f0 := (hX.cells.1 _ _ hlf).trans f0
    replace f1 := (hX.cells.1 _ _ hlf).trans f1
    replace f2 := (hX.cells.1 _ _ hlf).trans f2
    replace f3 := (hX.cells.1 _ _ hlf).trans f3
    replace f4 := (hX.cells.1 _ _ hlf).trans f4
    replace f5 := (hX.cells.1 _ _ hlf).trans f5
    replace hlf := Nat.lt_of_lt_of_le hlf hX.size
    replace b0 := (hX.cells.1 _ _ hlb).trans b0
    replace b1 := (hX.cells.1 _ _ hlb).trans b1
    replace b2 := (hX.cells.1 _ _ hlb).trans b2
    replace b3 := (hX.cells.1 _ _ hlb).trans b3
    replace b4 := (hX.cells.1 _ _ hlb).trans b4
    replace b5 := (hX.cells.1 _ _ hlb).trans b5
    replace hlb := Nat.lt_of_lt_of_le hlb hX.size
    replace hE := hE.trans hX
    clear hX x0 xc xf xs
    have x0 := Ext.refl w2
    go_upto_region 7 with (first | (go_at_call 45; refine (implContact_any u0 u1 u2 u3 u4 u5 v0 v1 v2 v3 v4 v5 _).mono ?_; rintro e w2 ⟨rfl, x2⟩; rw [(cb_swap v0 v1 v2 v3 v4 v5 u0 u1 u2 u3 u4 u5).1, (cb_swap v0 v1 v2 v3 v4 v5 u0 u1 u2 u3 u4 u5).2, matC_swap v0 v1 v2 v3 v4 v5 u0 u1 u2 u3 u4 u5]; rw [hM, hL, hH]; replace x0 := (by first | exact x0.trans x2 | exact (x0.alloc _).trans x2 | exact ((x0.alloc _).alloc _).trans x2 | exact (((x0.alloc _).alloc _).alloc _).trans x2); clear x2; (try clear xc xf xs); obtain ⟨xc, xf, xs⟩ := x0.cells))
    have hX := x0
    replace f0 := (hX.cells.1 _ _ hlf).trans f0
    replace f1 := (hX.cells.1 _ _ hlf).trans f1
    replace f2 := (hX.cells.1 _ _ hlf).trans f2
    replace f3 := (hX.cells.1 _ _ hlf).trans f3
    replace f4 := (hX.cells.1 _ _ hlf).trans f4
    replace f5 := (hX.cells.1 _ _ hlf).trans f5
    replace hlf := Nat.lt_of_lt_of_le hlf hX.size
    replace b0 := (hX.cells.1 _ _ hlb).trans b0
    replace b1 := (hX.cells.1 _ _ hlb).trans b1
    replace b2 := (hX.cells.1 _ _ hlb).trans b2
    replace b3 := (hX.cells.1 _ _ hlb).trans b3
    replace b4 := (hX.cells.1 _ _ hlb).trans b4
    replace b5 := (hX.cells.1 _ _ hlb).trans b5
    replace hlb := Nat.lt_of_lt_of_le hlb hX.size
    replace hE := hE.trans hX
    clear hX x0 xc xf xs
    have x0 := Ext.refl w2
    go_wp2_with fail
    go_ret
    exact ⟨rfl, hE⟩
  · have q1 : IntKind.i64.wrap (v2 + 1) = v2 + 1 := IntWalk.i64_in _ (by omega)
    go_upto_region 6 with (first | (go_at_call 45; refine (implContact_any v0 v1 v2 v3 v4 v5 u0 u1 u2 u3 u4 u5 _).mono ?_; rintro e w2 ⟨rfl, x2⟩; rw [hm, hL, hH]; replace x0 := (by first | exact x0.trans x2 | exact (x0.alloc _).trans x2 | exact ((x0.alloc _).alloc _).trans x2 | exact (((x0.alloc _).alloc _).alloc _).trans x2); clear x2; (try clear xc xf xs); obtain ⟨xc, xf, xs⟩ := x0.cells) | (go_at_call 44; refine (specContact_any v0 v1 v2 v3 v4 v5 u0 u1 u2 u3 u4 u5 _).mono ?_; rintro e w2 ⟨rfl, x2⟩; rw [hm, hL, hH]; replace x0 := (by first | exact x0.trans x2 | exact (x0.alloc _).trans x2 | exact ((x0.alloc _).alloc _).trans x2 | exact (((x0.alloc _).alloc _).alloc _).trans x2); clear x2; (try clear xc xf xs); obtain ⟨xc, xf, xs⟩ := x0.cells))
    have hX := x0
    replace f0 := (hX.cells.1 _ _ hlf).trans f0
    replace f1 := (hX.cells.1 _ _ hlf).trans f1
    replace f2 := (hX.cells.1 _ _ hlf).trans f2
    replace f3 := (hX.cells.1 _ _ hlf).trans f3
    replace f4 := (hX.cells.1 _ _ hlf).trans f4
    replace f5 := (hX.cells.1 _ _ hlf).trans f5
    replace hlf := Nat.lt_of_lt_of_le hlf hX.size
    replace b0 := (hX.cells.1 _ _ hlb).trans b0
    replace b1 := (hX.cells.1 _ _ hlb).trans b1
    replace b2 := (hX.cells.1 _ _ hlb).trans b2
    replace b3 := (hX.cells.1 _ _ hlb).trans b3
    replace b4 := (hX.cells.1 _ _ hlb).trans b4
    replace b5 := (hX.cells.1 _ _ hlb).trans b5
    replace hlb := Nat.lt_of_lt_of_le hlb hX.size
    replace hE := hE.trans hX
    clear hX x0 xc xf xs
    have x0 := Ext.refl w2
    go_upto_region 7 with (first | (go_at_call 45; refine (implContact_any u0 u1 u2 u3 u4 u5 v0 v1 v2 v3 v4 v5 _).mono ?_; rintro e w2 ⟨rfl, x2⟩; rw [(cb_swap v0 v1 v2 v3 v4 v5 u0 u1 u2 u3 u4 u5).1, (cb_swap v0 v1 v2 v3 v4 v5 u0 u1 u2 u3 u4 u5).2, matC_swap v0 v1 v2 v3 v4 v5 u0 u1 u2 u3 u4 u5]; rw [hm, hL, hH]; replace x0 := (by first | exact x0.trans x2 | exact (x0.alloc _).trans x2 | exact ((x0.alloc _).alloc _).trans x2 | exact (((x0.alloc _).alloc _).alloc _).trans x2); clear x2; (try clear xc xf xs); obtain ⟨xc, xf, xs⟩ := x0.cells))
    have hX := x0
    replace f0 := (hX.cells.1 _ _ hlf).trans f0
    replace f1 := (hX.cells.1 _ _ hlf).trans f1
    replace f2 := (hX.cells.1 _ _ hlf).trans f2
    replace f3 := (hX.cells.1 _ _ hlf).trans f3
    replace f4 := (hX.cells.1 _ _ hlf).trans f4
    replace f5 := (hX.cells.1 _ _ hlf).trans f5
    replace hlf := Nat.lt_of_lt_of_le hlf hX.size
    replace b0 := (hX.cells.1 _ _ hlb).trans b0
    replace b1 := (hX.cells.1 _ _ hlb).trans b1
    replace b2 := (hX.cells.1 _ _ hlb).trans b2
    replace b3 := (hX.cells.1 _ _ hlb).trans b3
    replace b4 := (hX.cells.1 _ _ hlb).trans b4
    replace b5 := (hX.cells.1 _ _ hlb).trans b5
    replace hlb := Nat.lt_of_lt_of_le hlb hX.size
    replace hE := hE.trans hX
    clear hX x0 xc xf xs
    have x0 := Ext.refl w2
    go_upto_region 12 with fail
    generalize hV : World.alloc _ _ = V3
    have hX : Ext w2 V3 := by rw [← hV]; exact (Ext.refl _).alloc _
    have hwx : w.heap.size ≤ w2.heap.size := hE.size
    have hxb : w2.heap.size ≠ gB := by omega
    have hbx : gB ≠ w2.heap.size := by omega
    have p0 : V3.cell? ⟨w2.heap.size, 0, none⟩ = some (.int .i64 v0) := by rw [← hV]; simp [go_sem]
    have p1 : V3.cell? ⟨w2.heap.size, 1, none⟩ = some (.int .i64 v1) := by rw [← hV]; simp [go_sem]
    have p2 : V3.cell? ⟨w2.heap.size, 2, none⟩ = some (.int .i64 v2) := by rw [← hV]; simp [go_sem]
    have p3 : V3.cell? ⟨w2.heap.size, 3, none⟩ = some (.int .i64 v3) := by rw [← hV]; simp [go_sem]
    have p4 : V3.cell? ⟨w2.heap.size, 4, none⟩ = some (.int .i64 v4) := by rw [← hV]; simp [go_sem]
    have p5 : V3.cell? ⟨w2.heap.size, 5, none⟩ = some (.int .i64 v5) := by rw [← hV]; simp [go_sem]
    have pz : V3.frozen? ⟨w2.heap.size, 2, none⟩ = false := by rw [← hV]; simp
    replace b0 := (hX.cells.1 _ _ hlb).trans b0
    replace b1 := (hX.cells.1 _ _ hlb).trans b1
    replace b2 := (hX.cells.1 _ _ hlb).trans b2
    replace b3 := (hX.cells.1 _ _ hlb).trans b3
    replace b4 := (hX.cells.1 _ _ hlb).trans b4
    replace b5 := (hX.cells.1 _ _ hlb).trans b5
    replace hlb := Nat.lt_of_lt_of_le hlb hX.size
    replace hE := hE.trans hX
    clear hV hX x0 f0 f1 f2 f3 f4 f5 hlf
    generalize w2.heap.size = gP at *
    go_upto_region 13 with fail
    generalize hV : World.setCell _ _ _ = V4
    have np0 : V4.cell? ⟨gP, 0, none⟩ = some (.int .i64 v0) := by rw [← hV]; simp [go_sem, p0, p1, p2, p3, p4, p5]
    have np1 : V4.cell? ⟨gP, 1, none⟩ = some (.int .i64 v1) := by rw [← hV]; simp [go_sem, p0, p1, p2, p3, p4, p5]
    have np2 : V4.cell? ⟨gP, 2, none⟩ = some (.int .i64 (v2 + 1)) := by rw [← hV]; simp [go_sem, p0, p1, p2, p3, p4, p5]
    have np3 : V4.cell? ⟨gP, 3, none⟩ = some (.int .i64 v3) := by rw [← hV]; simp [go_sem, p0, p1, p2, p3, p4, p5]
    have np4 : V4.cell? ⟨gP, 4, none⟩ = some (.int .i64 v4) := by rw [← hV]; simp [go_sem, p0, p1, p2, p3, p4, p5]
    have np5 : V4.cell? ⟨gP, 5, none⟩ = some (.int .i64 v5) := by rw [← hV]; simp [go_sem, p0, p1, p2, p3, p4, p5]
    have nb0 : V4.cell? ⟨gB, 0, none⟩ = some (.int .i64 u0) := by rw [← hV]; simp [go_sem, b0, b1, b2, b3, b4, b5, hxb, hbx]
    have nb1 : V4.cell? ⟨gB, 1, none⟩ = some (.int .i64 u1) := by rw [← hV]; simp [go_sem, b0, b1, b2, b3, b4, b5, hxb, hbx]
    have nb2 : V4.cell? ⟨gB, 2, none⟩ = some (.int .i64 u2) := by rw [← hV]; simp [go_sem, b0, b1, b2, b3, b4, b5, hxb, hbx]
    have nb3 : V4.cell? ⟨gB, 3, none⟩ = some (.int .i64 u3) := by rw [← hV]; simp [go_sem, b0, b1, b2, b3, b4, b5, hxb, hbx]
    have nb4 : V4.cell? ⟨gB, 4, none⟩ = some (.int .i64 u4) := by rw [← hV]; simp [go_sem, b0, b1, b2, b3, b4, b5, hxb, hbx]
    have nb5 : V4.cell? ⟨gB, 5, none⟩ = some (.int .i64 u5) := by rw [← hV]; simp [go_sem, b0, b1, b2, b3, b4, b5, hxb, hbx]
    replace hE : Ext w V4 := by rw [← hV]; exact hE.setCell hwx _
    clear hV p0 p1 p2 p3 p4 p5 b0 b1 b2 b3 b4 b5 pz
    generalize hM2 : matC v0 v1 (v2 + 1) v3 v4 v5 u0 u1 u2 u3 u4 u5 = M2 at h3
    generalize hL2 : cbL v0 v1 (v2 + 1) v3 v4 v5 u0 u1 u2 u3 u4 u5 = L2 at h3
    generalize hH2 : cbH v0 v1 (v2 + 1) v3 v4 v5 u0 u1 u2 u3 u4 u5 = H2 at h3
    rcases h3 with h3 | ⟨h3, h4, h5⟩
    · have h3' : (M2 != 0) = true := by simpa using h3
      go_upto_region 14 with (first | (go_at_call 45; refine (implContact_any v0 v1 (v2 + 1) v3 v4 v5 u0 u1 u2 u3 u4 u5 _).mono ?_; rintro e w3 ⟨rfl, x9⟩; rw [hM2, hL2, hH2]; skip))
      replace hE := hE.trans x9
      clear x9
      go_wp2_with fail
      go_ret
      exact ⟨rfl, hE⟩
    · subst h3
      go_upto_region 14 with (first | (go_at_call 45; refine (implContact_any v0 v1 (v2 + 1) v3 v4 v5 u0 u1 u2 u3 u4 u5 _).mono ?_; rintro e w3 ⟨rfl, x9⟩; rw [hM2, hL2, hH2]; skip))
      replace hE := hE.trans x9
      clear x9
      go_wp2_with fail
      go_ret
      exact ⟨rfl, hE⟩
end Go.Proofs.Ytbhhiodbhlhpmaa
