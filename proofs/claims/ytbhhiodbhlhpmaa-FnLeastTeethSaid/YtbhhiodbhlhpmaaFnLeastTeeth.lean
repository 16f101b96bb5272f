/-
  The walk of the law FnLeastTeeth.
-/
import Derived.Test.YtbhhiodbhlhpmaaDrawA
import Derived.Test.YtbhhiodbhlhpmaaDice
import Derived.Test.YtbhhiodbhlhpmaaHeld
import Derived.Test.YtbhhiodbhlhpmaaTeethP
namespace Go.Proofs.Ytbhhiodbhlhpmaa
open Go.RowKit
set_option linter.unusedSimpArgs false
set_option linter.unusedVariables false

set_option maxRecDepth 100000 in
set_option maxHeartbeats 1000000 in
theorem drawLt_any (a : Option Addr) (n cp : Nat) (w : World) (hB0 : RowB w w.heap.size a n) (hn : n ≤ 1048576) :
    Calls Try.prog 43 #[.slice a n cp] w fun e w' => (∃ v0 v1 v2 p, e = .returned (.tuple #[.agg #[.int .i64 v0, .int .i64 v1, .int .i64 v2], .int .i64 p])) ∧ Ext w w' := by
  go_enter Try.func43, Try.ntmps43
  go_upto_region 1 with fail
  generalize hW : World.alloc _ _ = W
  have xW : Ext w W := by rw [← hW]; exact (Ext.refl _).alloc _
  have hlr : w.heap.size < W.heap.size := by rw [← hW]; simp; try omega
  have r0 : W.cell? ⟨w.heap.size, 0, none⟩ = some (.int .i64 0) := by rw [← hW]; simp [go_sem]
  have rz0 : W.frozen? ⟨w.heap.size, 0, none⟩ = false := by rw [← hW]; simp
  have r1 : W.cell? ⟨w.heap.size, 1, none⟩ = some (.int .i64 0) := by rw [← hW]; simp [go_sem]
  have rz1 : W.frozen? ⟨w.heap.size, 1, none⟩ = false := by rw [← hW]; simp
  have r2 : W.cell? ⟨w.heap.size, 2, none⟩ = some (.int .i64 0) := by rw [← hW]; simp [go_sem]
  have rz2 : W.frozen? ⟨w.heap.size, 2, none⟩ = false := by rw [← hW]; simp
  clear hW
  have hgr := hlr
  go_upto_region 2 with (first | (go_at_call 70; refine (l00From_any a n cp _).mono ?_; rintro e w1 ⟨rfl, hS, x1⟩))
  have hB : RowB w1 W.heap.size a n := hB0.to (xW.trans x1) xW.size
  replace r0 := (x1.cells.1 _ _ hlr).trans r0
  replace rz0 := (x1.cells.2.1 _ _ hlr).trans rz0
  replace r1 := (x1.cells.1 _ _ hlr).trans r1
  replace rz1 := (x1.cells.2.1 _ _ hlr).trans rz1
  replace r2 := (x1.cells.1 _ _ hlr).trans r2
  replace rz2 := (x1.cells.2.1 _ _ hlr).trans rz2
  replace hlr := Nat.lt_of_lt_of_le hlr x1.size
  have hww : Ext w w1 := xW.trans x1
  clear x1 xW hB0
  generalize W.heap.size = g at *
  have hner : some w.heap.size ≠ some g := fun e => by injection e; omega
  go_upto_region 3 with (first | (go_at_call 74; refine (drawBentAngle_any g n cp 0 a _ hS hB (by omega) hn).mono ?_; rintro e w2 ⟨⟨v0, v1, v2, rfl⟩, hS2, hWc⟩))
  generalize hV : World.alloc _ _ = V
  have xV : Ext w2 V := by rw [← hV]; exact (Ext.refl _).alloc _
  have hX : Wrote (some g) w1 V := hWc.trans (Wrote.of_ext _ xV)
  have hs1 := hWc.size
  have hxr : w2.heap.size ≠ w.heap.size := by omega
  have hrx : w.heap.size ≠ w2.heap.size := by omega
  replace r0 := (hX.cell hlr hner).trans r0
  replace rz0 := (hX.free hlr hner).trans rz0
  replace r1 := (hX.cell hlr hner).trans r1
  replace rz1 := (hX.free hlr hner).trans rz1
  replace r2 := (hX.cell hlr hner).trans r2
  replace rz2 := (hX.free hlr hner).trans rz2
  replace hlr := Nat.lt_of_lt_of_le hlr hX.size
  have hlx : w2.heap.size < V.heap.size := by rw [← hV]; simp; try omega
  have x0 : V.cell? ⟨w2.heap.size, 0, none⟩ = some (.int .i64 v0) := by rw [← hV]; simp [go_sem]
  have xz0 : V.frozen? ⟨w2.heap.size, 0, none⟩ = false := by rw [← hV]; simp
  have x1 : V.cell? ⟨w2.heap.size, 1, none⟩ = some (.int .i64 v1) := by rw [← hV]; simp [go_sem]
  have xz1 : V.frozen? ⟨w2.heap.size, 1, none⟩ = false := by rw [← hV]; simp
  have x2 : V.cell? ⟨w2.heap.size, 2, none⟩ = some (.int .i64 v2) := by rw [← hV]; simp [go_sem]
  have xz2 : V.frozen? ⟨w2.heap.size, 2, none⟩ = false := by rw [← hV]; simp
  have hnex : some w2.heap.size ≠ some g := fun e => by injection e; have := hS2.lt; omega
  replace hB := hB.wrote hX
  have hS := hS2.ext xV
  have hwV := Wrote.ext hww hX (fun k hk => by injection hk; omega)
  clear hV hWc hS2 xV hX hs1 hww
  generalize w2.heap.size = gX at *
  have hW0 := Wrote.refl (some g) V
  go_region_held3 (fun w' => w'.cell? ⟨gX, 0, none⟩ = some (.int .i64 v0) ∧ w'.cell? ⟨gX, 1, none⟩ = some (.int .i64 v1) ∧ w'.cell? ⟨gX, 2, none⟩ = some (.int .i64 v2))
    (first | (refine ⟨?_, ?_, ?_⟩ <;> with_reducible assumption) | (refine ⟨?_, ?_, ?_⟩ <;> with_reducible (refine (kx _).trans ?_ <;> assumption)) | (refine ⟨?_, ?_, ?_⟩ <;> with_reducible ((repeat (refine keep_other (by assumption) ?_)); refine (kx _).trans ?_; assumption)) | go_keep)
    (first | (go_at_call 71; refine (pick_any g n cp 8 22 a _ (by first | exact hS | exact hS.ext ((Ext.refl _).drew) | exact hS.ext ((Ext.refl _).drewN _)) (by first | exact hB | exact hB.ext ((Ext.refl _).drew) | exact hB.ext ((Ext.refl _).drewN _)) (by omega) hn).mono ?_; rintro e w9 ⟨p, rfl, hp, hS2, hWc⟩; (first | replace hW0 := hW0.trans hWc | replace hW0 := (hW0.trans (Wrote.of_ext _ ((Ext.refl _).drew))).trans hWc | replace hW0 := (hW0.trans (Wrote.of_ext _ ((Ext.refl _).drewN _))).trans hWc); have kr : ∀ o, w9.cell? ⟨w.heap.size, o, none⟩ = _ := (fun o => hW0.cell hlr hner); have kzr : ∀ o, w9.frozen? ⟨w.heap.size, o, none⟩ = _ := (fun o => hW0.free hlr hner); have kx : ∀ o, w9.cell? ⟨gX, o, none⟩ = _ := (fun o => hW0.cell hlx hnex); have kzx : ∀ o, w9.frozen? ⟨gX, o, none⟩ = _ := (fun o => hW0.free hlx hnex)))
  all_goals go_wp2_with fail
  all_goals refine bodyPost_ret (v := ?_) ?_ rfl ?_
  all_goals try (simp [results, Try.results43, go_sem, *]; exact rfl)
  all_goals exact ⟨⟨_, _, _, _, rfl⟩, by (repeat (refine Ext.setCell ?_ (by simp; try omega) _)); exact Wrote.ext hwV hW0 (fun k hk => by injection hk; omega)⟩

set_option maxRecDepth 100000 in
set_option maxHeartbeats 2000000 in
theorem fnLeastTeeth_walk (a : Option Addr) (n cp : Nat) (w : World) (hB : RowB w w.heap.size a n) :
    Calls Try.prog 13 #[.slice a n cp] w fun e w' => e = .returned (.bool true) ∧ Ext w w' := by
  by_cases hbig : 4096 < n
  · have t1 : decide (4096 < n) = true := by simpa using hbig
    go_enter Try.func13, Try.ntmps13
    go_wp2_with (first | (go_at_call 37; refine (f6big_any a n cp _).mono ?_; rintro e w1 ⟨rfl, rfl⟩; rw [t1]))
    go_ret
    exact ⟨rfl, Ext.refl _⟩
  have t1 : decide (4096 < n) = false := by simpa using hbig
  go_enter Try.func13, Try.ntmps13
  go_upto_region 4 with (first | (go_at_call 37; refine (f6big_any a n cp _).mono ?_; rintro e w1 ⟨rfl, rfl⟩; rw [t1]) | (go_at_call 43; refine (drawLt_any a n cp _ hB (by omega)).mono ?_; rintro e w1 ⟨⟨v0, v1, v2, k, rfl⟩, x1⟩))
  generalize hV : World.alloc _ _ = V
  have hE : Ext w V := by rw [← hV]; exact (x1.alloc _)
  have hlf : w1.heap.size < V.heap.size := by rw [← hV]; simp; try omega
  have f0 : V.cell? ⟨w1.heap.size, 0, none⟩ = some (.int .i64 v0) := by rw [← hV]; simp [go_sem]
  have f1 : V.cell? ⟨w1.heap.size, 1, none⟩ = some (.int .i64 v1) := by rw [← hV]; simp [go_sem]
  have f2 : V.cell? ⟨w1.heap.size, 2, none⟩ = some (.int .i64 v2) := by rw [← hV]; simp [go_sem]
  clear hV x1
  generalize w1.heap.size = gE at *
  have x0 := Ext.refl V
  by_cases hc : ltC v0 v1 v2 k = 0
  · obtain ⟨⟨bs, bh, bk, bz⟩, h1, h2, h3⟩ := lz_ok hc
    generalize hZ : ltZ v0 v1 v2 k = Z at bz h1 h2 h3
    go_upto_region 6 with (first | (go_at_call 32; refine (implLeastTeeth_any v0 v1 v2 k _).mono ?_; rintro e w2 ⟨rfl, x2⟩; rw [hc, hZ]; replace x0 := (by first | exact x0.trans x2 | exact (x0.alloc _).trans x2 | exact ((x0.alloc _).alloc _).trans x2 | exact (((x0.alloc _).alloc _).alloc _).trans x2); clear x2; (try clear xc xf xs); obtain ⟨xc, xf, xs⟩ := x0.cells) | (go_at_call 31; refine (specLeastTeeth_any v0 v1 v2 k _).mono ?_; rintro e w2 ⟨rfl, x2⟩; rw [hc, hZ]; replace x0 := (by first | exact x0.trans x2 | exact (x0.alloc _).trans x2 | exact ((x0.alloc _).alloc _).trans x2 | exact (((x0.alloc _).alloc _).alloc _).trans x2); clear x2; (try clear xc xf xs); obtain ⟨xc, xf, xs⟩ := x0.cells))
    have hX := x0
    replace f0 := (hX.cells.1 _ _ hlf).trans f0
    replace f1 := (hX.cells.1 _ _ hlf).trans f1
    replace f2 := (hX.cells.1 _ _ hlf).trans f2
    replace hlf := Nat.lt_of_lt_of_le hlf hX.size
    replace hE := hE.trans hX
    clear hX x0 xc xf xs
    have x0 := Ext.refl w2
    skip
    go_region_held3 (fun w' => w'.cell? ⟨gE, 0, none⟩ = some (.int .i64 v0) ∧ w'.cell? ⟨gE, 1, none⟩ = some (.int .i64 v1) ∧ w'.cell? ⟨gE, 2, none⟩ = some (.int .i64 v2))
      (first | (refine ⟨?_, ?_, ?_⟩ <;> with_reducible assumption) | (refine ⟨?_, ?_, ?_⟩ <;> (refine keep_ext (W := w2) ?_ (by assumption) (by assumption); exact x0)) | go_keep)
      (first | (go_at_call 20; refine (implValidAngle_any v0 v1 v2 _).mono ?_; rintro e w8 ⟨rfl, x2⟩; replace x0 := (by first | exact x0.trans x2 | exact (x0.drew).trans x2 | exact (x0.drewN _).trans x2); clear x2) | (go_at_call 18; refine (specValidAngle_any v0 v1 v2 _).mono ?_; rintro e w8 ⟨rfl, x2⟩; replace x0 := (by first | exact x0.trans x2 | exact (x0.drew).trans x2 | exact (x0.drewN _).trans x2); clear x2))
    all_goals have hX := x0
    all_goals (replace f0 := (hX.cells.1 _ _ hlf).trans f0; replace f1 := (hX.cells.1 _ _ hlf).trans f1; replace f2 := (hX.cells.1 _ _ hlf).trans f2; replace hlf := Nat.lt_of_lt_of_le hlf hX.size; replace hE := hE.trans hX; clear hX x0)
    skip
    all_goals (try clear hB)
    · have x0 := Ext.refl w8
      have m1 := mul_bd (x := Z) (y := v0) (X := 240) (Y := 1000) (by omega) (by omega)
      have m2 := mul_bd (x := Z * v0) (y := v0) (X := 240000) (Y := 1000) m1 (by omega)
      have m3 := mul_bd (x := k) (y := v2) (X := 20) (Y := 1000) (by omega) (by omega)
      have m4 := mul_bd (x := k * v2) (y := v2) (X := 20000) (Y := 1000) m3 (by omega)
      have m5 := mul_bd (x := Z - 1) (y := v0) (X := 240) (Y := 1000) (by omega) (by omega)
      have m6 := mul_bd (x := (Z - 1) * v0) (y := v0) (X := 240000) (Y := 1000) m5 (by omega)
      have e1 : 10 * Z * v0 = 10 * (Z * v0) := Int.mul_assoc _ _ _
      have e2 : 10 * Z * v0 * v0 = 10 * (Z * v0 * v0) := by rw [e1, Int.mul_assoc]
      have e3 : 2 * k * v2 = 2 * (k * v2) := Int.mul_assoc _ _ _
      have e4 : 2 * k * v2 * v2 = 2 * (k * v2 * v2) := by rw [e3, Int.mul_assoc]
      have e5 : 10 * (Z - 1) * v0 = 10 * ((Z - 1) * v0) := Int.mul_assoc _ _ _
      have e6 : 10 * (Z - 1) * v0 * v0 = 10 * ((Z - 1) * v0 * v0) := by rw [e5, Int.mul_assoc]
      have q0 : IntKind.i64.wrap (k + 1) = k + 1 := IntWalk.i64_in _ (by omega)
      have q1 : IntKind.i64.wrap (10 * Z) = 10 * Z := IntWalk.i64_in _ (by omega)
      have q2 : IntKind.i64.wrap (10 * Z * v0) = 10 * Z * v0 := IntWalk.i64_in _ (by omega)
      have q3 : IntKind.i64.wrap (10 * Z * v0 * v0) = 10 * Z * v0 * v0 := IntWalk.i64_in _ (by omega)
      have q4 : IntKind.i64.wrap (2 * k) = 2 * k := IntWalk.i64_in _ (by omega)
      have q5 : IntKind.i64.wrap (2 * k * v2) = 2 * k * v2 := IntWalk.i64_in _ (by omega)
      have q6 : IntKind.i64.wrap (2 * k * v2 * v2) = 2 * k * v2 * v2 := IntWalk.i64_in _ (by omega)
      have q7 : IntKind.i64.wrap (Z - 1) = Z - 1 := IntWalk.i64_in _ (by omega)
      have q8 : IntKind.i64.wrap (10 * (Z - 1)) = 10 * (Z - 1) := IntWalk.i64_in _ (by omega)
      have q9 : IntKind.i64.wrap (10 * (Z - 1) * v0) = 10 * (Z - 1) * v0 := IntWalk.i64_in _ (by omega)
      have q10 : IntKind.i64.wrap (10 * (Z - 1) * v0 * v0) = 10 * (Z - 1) * v0 * v0 := IntWalk.i64_in _ (by omega)
      clear m1 m2 m3 m4 m5 m6 e1 e2 e3 e4 e5 e6 bs bh bk
      generalize hC2 : ltC v0 v1 v2 (k + 1) = C2 at h3
      generalize hZ2 : ltZ v0 v1 v2 (k + 1) = Z2 at h3
      by_cases h4 : Z = 6
      · have h7 : ¬ 6 < Z := by omega
        clear h2 h4
        by_cases h5 : C2 = 0
        · subst h5
          have h6 : Z ≤ Z2 := by omega
          go_upto_region 11 with (first | (go_at_call 32; refine (implLeastTeeth_any v0 v1 v2 (k + 1) _).mono ?_; rintro e w2 ⟨rfl, x2⟩; rw [hC2, hZ2]; replace x0 := (by first | exact x0.trans x2 | exact (x0.alloc _).trans x2 | exact ((x0.alloc _).alloc _).trans x2 | exact (((x0.alloc _).alloc _).alloc _).trans x2); clear x2; (try clear xc xf xs); obtain ⟨xc, xf, xs⟩ := x0.cells))
          have hX := x0
          replace f0 := (hX.cells.1 _ _ hlf).trans f0
          replace f1 := (hX.cells.1 _ _ hlf).trans f1
          replace f2 := (hX.cells.1 _ _ hlf).trans f2
          replace hlf := Nat.lt_of_lt_of_le hlf hX.size
          replace hE := hE.trans hX
          clear hX x0 xc xf xs
          have x0 := Ext.refl w2
          go_wp2_with fail
          go_ret
          exact ⟨rfl, hE⟩
        · have h6 : (C2 != 0) = true := by simpa using h5
          go_upto_region 11 with (first | (go_at_call 32; refine (implLeastTeeth_any v0 v1 v2 (k + 1) _).mono ?_; rintro e w2 ⟨rfl, x2⟩; rw [hC2, hZ2]; replace x0 := (by first | exact x0.trans x2 | exact (x0.alloc _).trans x2 | exact ((x0.alloc _).alloc _).trans x2 | exact (((x0.alloc _).alloc _).alloc _).trans x2); clear x2; (try clear xc xf xs); obtain ⟨xc, xf, xs⟩ := x0.cells))
          have hX := x0
          replace f0 := (hX.cells.1 _ _ hlf).trans f0
          replace f1 := (hX.cells.1 _ _ hlf).trans f1
          replace f2 := (hX.cells.1 _ _ hlf).trans f2
          replace hlf := Nat.lt_of_lt_of_le hlf hX.size
          replace hE := hE.trans hX
          clear hX x0 xc xf xs
          have x0 := Ext.refl w2
          go_wp2_with fail
          go_ret
          exact ⟨rfl, hE⟩
      · have h7 : 6 < Z := by omega
        have h8 : ¬ 2 * k * v2 * v2 ≤ 10 * (Z - 1) * v0 * v0 := by omega
        have h9 : decide (2 * k * v2 * v2 ≤ 10 * (Z - 1) * v0 * v0) = false := decide_eq_false h8
        clear h2 h4 h8
        by_cases h5 : C2 = 0
        · subst h5
          have h6 : Z ≤ Z2 := by omega
          go_upto_region 11 with (first | (go_at_call 32; refine (implLeastTeeth_any v0 v1 v2 (k + 1) _).mono ?_; rintro e w2 ⟨rfl, x2⟩; rw [hC2, hZ2]; replace x0 := (by first | exact x0.trans x2 | exact (x0.alloc _).trans x2 | exact ((x0.alloc _).alloc _).trans x2 | exact (((x0.alloc _).alloc _).alloc _).trans x2); clear x2; (try clear xc xf xs); obtain ⟨xc, xf, xs⟩ := x0.cells))
          have hX := x0
          replace f0 := (hX.cells.1 _ _ hlf).trans f0
          replace f1 := (hX.cells.1 _ _ hlf).trans f1
          replace f2 := (hX.cells.1 _ _ hlf).trans f2
          replace hlf := Nat.lt_of_lt_of_le hlf hX.size
          replace hE := hE.trans hX
          clear hX x0 xc xf xs
          have x0 := Ext.refl w2
          go_wp2_with fail
          go_ret
          exact ⟨rfl, hE⟩
        · have h6 : (C2 != 0) = true := by simpa using h5
          go_upto_region 11 with (first | (go_at_call 32; refine (implLeastTeeth_any v0 v1 v2 (k + 1) _).mono ?_; rintro e w2 ⟨rfl, x2⟩; rw [hC2, hZ2]; replace x0 := (by first | exact x0.trans x2 | exact (x0.alloc _).trans x2 | exact ((x0.alloc _).alloc _).trans x2 | exact (((x0.alloc _).alloc _).alloc _).trans x2); clear x2; (try clear xc xf xs); obtain ⟨xc, xf, xs⟩ := x0.cells))
          have hX := x0
          replace f0 := (hX.cells.1 _ _ hlf).trans f0
          replace f1 := (hX.cells.1 _ _ hlf).trans f1
          replace f2 := (hX.cells.1 _ _ hlf).trans f2
          replace hlf := Nat.lt_of_lt_of_le hlf hX.size
          replace hE := hE.trans hX
          clear hX x0 xc xf xs
          have x0 := Ext.refl w2
          go_wp2_with fail
          go_ret
          exact ⟨rfl, hE⟩
  · generalize hC : ltC v0 v1 v2 k = C at hc
    have hc2 : (C != 0) = true := by simpa using hc
    go_upto_region 6 with (first | (go_at_call 32; refine (implLeastTeeth_any v0 v1 v2 k _).mono ?_; rintro e w2 ⟨rfl, x2⟩; rw [hC]; replace x0 := (by first | exact x0.trans x2 | exact (x0.alloc _).trans x2 | exact ((x0.alloc _).alloc _).trans x2 | exact (((x0.alloc _).alloc _).alloc _).trans x2); clear x2; (try clear xc xf xs); obtain ⟨xc, xf, xs⟩ := x0.cells) | (go_at_call 31; refine (specLeastTeeth_any v0 v1 v2 k _).mono ?_; rintro e w2 ⟨rfl, x2⟩; rw [hC]; replace x0 := (by first | exact x0.trans x2 | exact (x0.alloc _).trans x2 | exact ((x0.alloc _).alloc _).trans x2 | exact (((x0.alloc _).alloc _).alloc _).trans x2); clear x2; (try clear xc xf xs); obtain ⟨xc, xf, xs⟩ := x0.cells))
    have hX := x0
    replace f0 := (hX.cells.1 _ _ hlf).trans f0
    replace f1 := (hX.cells.1 _ _ hlf).trans f1
    replace f2 := (hX.cells.1 _ _ hlf).trans f2
    replace hlf := Nat.lt_of_lt_of_le hlf hX.size
    replace hE := hE.trans hX
    clear hX x0 xc xf xs
    have x0 := Ext.refl w2
    skip
    go_region_held3 (fun w' => w'.cell? ⟨gE, 0, none⟩ = some (.int .i64 v0) ∧ w'.cell? ⟨gE, 1, none⟩ = some (.int .i64 v1) ∧ w'.cell? ⟨gE, 2, none⟩ = some (.int .i64 v2))
      (first | (refine ⟨?_, ?_, ?_⟩ <;> with_reducible assumption) | (refine ⟨?_, ?_, ?_⟩ <;> (refine keep_ext (W := w2) ?_ (by assumption) (by assumption); exact x0)) | go_keep)
      (first | (go_at_call 20; refine (implValidAngle_any v0 v1 v2 _).mono ?_; rintro e w8 ⟨rfl, x2⟩; replace x0 := (by first | exact x0.trans x2 | exact (x0.drew).trans x2 | exact (x0.drewN _).trans x2); clear x2) | (go_at_call 18; refine (specValidAngle_any v0 v1 v2 _).mono ?_; rintro e w8 ⟨rfl, x2⟩; replace x0 := (by first | exact x0.trans x2 | exact (x0.drew).trans x2 | exact (x0.drewN _).trans x2); clear x2))
    all_goals go_wp2_with fail
    all_goals go_ret
    all_goals exact ⟨rfl, hE.trans x0⟩
end Go.Proofs.Ytbhhiodbhlhpmaa
