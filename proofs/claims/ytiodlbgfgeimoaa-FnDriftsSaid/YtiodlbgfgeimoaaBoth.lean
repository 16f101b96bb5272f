/-
  A rate and segments drawn.
-/
import Derived.Test.YtiodlbgfgeimoaaList
namespace Go.Proofs.Ytiodlbgfgeimoaa
open Go.RowKit
set_option linter.unusedSimpArgs false
set_option linter.unusedVariables false

theorem PairsOf.other {w : World} {B g j : Nat} {v : Value} {zs : List (Int × Int)} (h : PairsOf w B v zs) (hg : g < B) (u : Value) : PairsOf (w.setCell ⟨g, j, none⟩ u) B v zs := h.src (Wrote.set w g j u) hg
theorem PairsOf.drew {w : World} {B : Nat} {v : Value} {zs : List (Int × Int)} (h : PairsOf w B v zs) : PairsOf w.drew B v zs := h.ext ((Ext.refl _).drew)
set_option maxRecDepth 100000 in
set_option maxHeartbeats 1000000 in
theorem both_nn (a : Option Addr) (n cp : Nat) (w : World) (hB0 : RowB w w.heap.size a n) (hn : n ≤ 1048576) :
    Calls Try.prog 89 #[.slice a n cp] w fun e w' => (∃ v0 v1 v2 v3 v zs, e = .returned (.tuple #[.agg #[.int .i64 v0, .int .i64 v1, .int .i64 v2, .int .i64 v3], v]) ∧ PairsOf w' w.heap.size v zs ∧ zs.length ≤ 100 ∧ NN v) ∧ Ext w w' := by
  go_enter Try.func89, Try.ntmps89
  go_upto_region 1 with fail
  generalize hW : World.alloc _ _ = W
  have xW : Ext w W := by rw [← hW]; exact (Ext.refl _).alloc _
  have hlr : w.heap.size < W.heap.size := by rw [← hW]; simp; try omega
  have r0 : W.cell? ⟨w.heap.size, 0, none⟩ = some (.int .i64 0) := by rw [← hW]; simp [go_sem]
  have rz0 : W.frozen? ⟨w.heap.size, 0, none⟩ = false := by rw [← hW]; simp
  have r1 : W.cell? ⟨w.heap.size, 1, none⟩ = some (.int .i64 0) := by rw [← hW]; simp [go_sem]
  have rz1 : W.frozen? ⟨w.heap.size, 1, none⟩ = false := by rw [← hW]; simp
  have r2 : W.cell? ⟨w.heap.size, 2, none⟩ = some (.int .i64 0) := by rw [← hW]; simp [go_sem]
  have rz2 : W.frozen? ⟨w.heap.size, 2, none⟩ = false := by rw [← hW]; simp
  have r3 : W.cell? ⟨w.heap.size, 3, none⟩ = some (.int .i64 0) := by rw [← hW]; simp [go_sem]
  have rz3 : W.frozen? ⟨w.heap.size, 3, none⟩ = false := by rw [← hW]; simp
  clear hW
  have hgr := hlr
  go_upto_region 2 with (first | (go_at_call 88; refine (l00From_any a n cp _).mono ?_; rintro e w1 ⟨rfl, hS, x1⟩))
  have hB : RowB w1 W.heap.size a n := hB0.to (xW.trans x1) xW.size
  replace r0 := (x1.cells.1 _ _ hlr).trans r0
  replace rz0 := (x1.cells.2.1 _ _ hlr).trans rz0
  replace r1 := (x1.cells.1 _ _ hlr).trans r1
  replace rz1 := (x1.cells.2.1 _ _ hlr).trans rz1
  replace r2 := (x1.cells.1 _ _ hlr).trans r2
  replace rz2 := (x1.cells.2.1 _ _ hlr).trans rz2
  replace r3 := (x1.cells.1 _ _ hlr).trans r3
  replace rz3 := (x1.cells.2.1 _ _ hlr).trans rz3
  replace hlr := Nat.lt_of_lt_of_le hlr x1.size
  have hww : Ext w w1 := xW.trans x1
  clear x1 xW hB0
  generalize W.heap.size = g at *
  have hner : some w.heap.size ≠ some g := fun e => by injection e; omega
  go_upto_region 3 with (first | (go_at_call 93; refine (drawRate_any g n cp 0 a _ hS hB (by omega) hn).mono ?_; rintro e w2 ⟨⟨v0, v1, v2, v3, rfl⟩, hS2, hWc⟩))
  generalize hV : World.alloc _ _ = V
  have xV : Ext w2 V := by rw [← hV]; exact (Ext.refl _).alloc _
  have hX : Wrote (some g) w1 V := hWc.trans (Wrote.of_ext _ xV)
  have hs1 := hWc.size
  have hxr : w2.heap.size ≠ w.heap.size := by omega
  have hrx : w.heap.size ≠ w2.heap.size := by omega
  replace r0 := (hX.cell hlr hner).trans r0
  replace rz0 := (hX.free hlr hner).trans rz0
  replace r1 := (hX.cell hlr hner).trans r1
  replace rz1 := (hX.free hlr hner).trans rz1
  replace r2 := (hX.cell hlr hner).trans r2
  replace rz2 := (hX.free hlr hner).trans rz2
  replace r3 := (hX.cell hlr hner).trans r3
  replace rz3 := (hX.free hlr hner).trans rz3
  replace hlr := Nat.lt_of_lt_of_le hlr hX.size
  have hlx : w2.heap.size < V.heap.size := by rw [← hV]; simp; try omega
  have x0 : V.cell? ⟨w2.heap.size, 0, none⟩ = some (.int .i64 v0) := by rw [← hV]; simp [go_sem]
  have xz0 : V.frozen? ⟨w2.heap.size, 0, none⟩ = false := by rw [← hV]; simp
  have x1 : V.cell? ⟨w2.heap.size, 1, none⟩ = some (.int .i64 v1) := by rw [← hV]; simp [go_sem]
  have xz1 : V.frozen? ⟨w2.heap.size, 1, none⟩ = false := by rw [← hV]; simp
  have x2 : V.cell? ⟨w2.heap.size, 2, none⟩ = some (.int .i64 v2) := by rw [← hV]; simp [go_sem]
  have xz2 : V.frozen? ⟨w2.heap.size, 2, none⟩ = false := by rw [← hV]; simp
  have x3 : V.cell? ⟨w2.heap.size, 3, none⟩ = some (.int .i64 v3) := by rw [← hV]; simp [go_sem]
  have xz3 : V.frozen? ⟨w2.heap.size, 3, none⟩ = false := by rw [← hV]; simp
  have hnex : some w2.heap.size ≠ some g := fun e => by injection e; have := hS2.lt; omega
  replace hB := hB.wrote hX
  have hS := hS2.ext xV
  have hwV := Wrote.ext hww hX (fun k hk => by injection hk; omega)
  clear hV hWc hS2 xV hX hs1 hww
  generalize w2.heap.size = gX at *
  have hW0 := Wrote.refl (some g) V
  go_region_held3 (fun w' => w'.cell? ⟨gX, 0, none⟩ = some (.int .i64 v0) ∧ w'.cell? ⟨gX, 1, none⟩ = some (.int .i64 v1) ∧ w'.cell? ⟨gX, 2, none⟩ = some (.int .i64 v2) ∧ w'.cell? ⟨gX, 3, none⟩ = some (.int .i64 v3))
    (first | (refine ⟨?_, ?_, ?_, ?_⟩ <;> with_reducible assumption) | (refine ⟨?_, ?_, ?_, ?_⟩ <;> with_reducible (refine (kx _).trans ?_ <;> assumption)) | (refine ⟨?_, ?_, ?_, ?_⟩ <;> with_reducible ((repeat (refine keep_other (by assumption) ?_)); refine (kx _).trans ?_; assumption)) | go_keep)
    (first | (go_at_call 87; refine (drawSegs_nn g n cp 16 a _ (by first | exact hS | exact hS.ext ((Ext.refl _).drew) | exact hS.ext ((Ext.refl _).drewN _)) (by first | exact hB | exact hB.ext ((Ext.refl _).drew) | exact hB.ext ((Ext.refl _).drewN _)) (by omega) hn).mono ?_; rintro e w9 ⟨⟨v, zs, rfl, hP, hl, hN⟩, hS2, hWc⟩; replace hP := hP.low (show V.heap.size ≤ _ from (by first | exact Nat.le_refl _ | simp)); (first | replace hW0 := hW0.trans hWc | replace hW0 := (hW0.trans (Wrote.of_ext _ ((Ext.refl _).drew))).trans hWc | replace hW0 := (hW0.trans (Wrote.of_ext _ ((Ext.refl _).drewN _))).trans hWc); have kr : ∀ o, w9.cell? ⟨w.heap.size, o, none⟩ = _ := (fun o => hW0.cell hlr hner); have kzr : ∀ o, w9.frozen? ⟨w.heap.size, o, none⟩ = _ := (fun o => hW0.free hlr hner); have kx : ∀ o, w9.cell? ⟨gX, o, none⟩ = _ := (fun o => hW0.cell hlx hnex); have kzx : ∀ o, w9.frozen? ⟨gX, o, none⟩ = _ := (fun o => hW0.free hlx hnex)))
  all_goals go_wp2_with fail
  all_goals generalize hU : World.setCell _ _ _ = U9
  all_goals have hW9 : Ext w U9 := by rw [← hU]; (repeat (first | (with_reducible refine Ext.drew ?_) | (with_reducible refine Ext.setCell ?_ ?_ _; rotate_left; focus (first | (simp; done) | (simp; omega) | omega)))); exact Wrote.ext hwV hW0 (fun k hk => by injection hk; omega)
  all_goals have hP9 : PairsOf U9 w.heap.size v zs := by rw [← hU]; refine PairsOf.low ?_ hwV.size; (repeat (first | (with_reducible refine PairsOf.drew ?_) | (with_reducible refine PairsOf.other ?_ ?_ _; rotate_left; focus (first | assumption | omega)))); exact hP
  all_goals have nr0 : U9.cell? ⟨w.heap.size, 0, none⟩ = some (.int .i64 v0) := by rw [← hU]; ((repeat (first | (with_reducible refine cell_drew ?_) | (with_reducible refine cell_same ?_) | (with_reducible refine keep_other ?_ ?_; focus (first | assumption | omega)) | (with_reducible refine cell_off ?_ ?_; focus decide))); (repeat (first | (with_reducible refine some_drew ?_) | (with_reducible refine some_other ?_)))); rw [kr, r0]; rfl
  all_goals have nr1 : U9.cell? ⟨w.heap.size, 1, none⟩ = some (.int .i64 v1) := by rw [← hU]; ((repeat (first | (with_reducible refine cell_drew ?_) | (with_reducible refine cell_same ?_) | (with_reducible refine keep_other ?_ ?_; focus (first | assumption | omega)) | (with_reducible refine cell_off ?_ ?_; focus decide))); (repeat (first | (with_reducible refine some_drew ?_) | (with_reducible refine some_other ?_)))); rw [kr, r1]; rfl
  all_goals have nr2 : U9.cell? ⟨w.heap.size, 2, none⟩ = some (.int .i64 v2) := by rw [← hU]; ((repeat (first | (with_reducible refine cell_drew ?_) | (with_reducible refine cell_same ?_) | (with_reducible refine keep_other ?_ ?_; focus (first | assumption | omega)) | (with_reducible refine cell_off ?_ ?_; focus decide))); (repeat (first | (with_reducible refine some_drew ?_) | (with_reducible refine some_other ?_)))); rw [kr, r2]; rfl
  all_goals have nr3 : U9.cell? ⟨w.heap.size, 3, none⟩ = some (.int .i64 v3) := by rw [← hU]; ((repeat (first | (with_reducible refine cell_drew ?_) | (with_reducible refine cell_same ?_) | (with_reducible refine keep_other ?_ ?_; focus (first | assumption | omega)) | (with_reducible refine cell_off ?_ ?_; focus decide))); (repeat (first | (with_reducible refine some_drew ?_) | (with_reducible refine some_other ?_)))); rw [kr, r3]; rfl
  all_goals clear hU
  all_goals refine bodyPost_ret (v := ?_) ?_ rfl ?_
  all_goals try (simp [results, Try.results89, go_sem, nr0, nr1, nr2, nr3]; exact rfl)
  all_goals exact ⟨⟨_, _, _, _, _, _, rfl, hP9, hl, hN⟩, hW9⟩
set_option maxRecDepth 100000 in
set_option maxHeartbeats 1000000 in
theorem drawBest_nn (a : Option Addr) (n cp : Nat) (w : World) (hB0 : RowB w w.heap.size a n) (hn : n ≤ 1048576) :
    Calls Try.prog 54 #[.slice a n cp] w fun e w' => (∃ v0 v1 v2 v3 v zs, e = .returned (.tuple #[.agg #[.int .i64 v0, .int .i64 v1, .int .i64 v2, .int .i64 v3], v]) ∧ PairsOf w' w.heap.size v zs ∧ zs.length ≤ 100 ∧ NN v) ∧ Ext w w' := by
  go_enter Try.func54, Try.ntmps54
  go_upto_region 1 with fail
  generalize hW : World.alloc _ _ = W
  have xW : Ext w W := by rw [← hW]; exact (Ext.refl _).alloc _
  have hlw : w.heap.size < W.heap.size := by rw [← hW]; simp
  have hlr : w.heap.size < W.heap.size := by rw [← hW]; simp; try omega
  have r0 : W.cell? ⟨w.heap.size, 0, none⟩ = some (.int .i64 0) := by rw [← hW]; simp [go_sem]
  have rz0 : W.frozen? ⟨w.heap.size, 0, none⟩ = false := by rw [← hW]; simp
  have r1 : W.cell? ⟨w.heap.size, 1, none⟩ = some (.int .i64 0) := by rw [← hW]; simp [go_sem]
  have rz1 : W.frozen? ⟨w.heap.size, 1, none⟩ = false := by rw [← hW]; simp
  have r2 : W.cell? ⟨w.heap.size, 2, none⟩ = some (.int .i64 0) := by rw [← hW]; simp [go_sem]
  have rz2 : W.frozen? ⟨w.heap.size, 2, none⟩ = false := by rw [← hW]; simp
  have r3 : W.cell? ⟨w.heap.size, 3, none⟩ = some (.int .i64 0) := by rw [← hW]; simp [go_sem]
  have rz3 : W.frozen? ⟨w.heap.size, 3, none⟩ = false := by rw [← hW]; simp
  clear hW
  go_wp2_with (first | (go_at_call 89; refine (both_nn a n cp _ (hB0.to xW xW.size) hn).mono ?_; rintro e w1 ⟨⟨v0, v1, v2, v3, v, zs, rfl, hP, hl, hN⟩, x1⟩; have kr : ∀ o, w1.cell? ⟨w.heap.size, o, none⟩ = W.cell? ⟨w.heap.size, o, none⟩ := (fun o => x1.cells.1 _ _ hlr); have kzr : ∀ o, w1.frozen? ⟨w.heap.size, o, none⟩ = W.frozen? ⟨w.heap.size, o, none⟩ := (fun o => x1.cells.2.1 _ _ hlr)))
  generalize hU : World.setCell _ _ _ = U9
  have hW9 : Ext w U9 := by rw [← hU]; (repeat (first | (with_reducible refine Ext.drew ?_) | (with_reducible refine Ext.setCell ?_ ?_ _; rotate_left; focus (first | (simp; done) | (simp; omega) | omega)))); exact xW.trans x1
  have hP9 : PairsOf U9 w.heap.size v zs := by rw [← hU]; refine PairsOf.low ?_ xW.size; (repeat (first | (with_reducible refine PairsOf.drew ?_) | (with_reducible refine PairsOf.other ?_ ?_ _; rotate_left; focus (first | assumption | omega)))); exact hP
  have nr0 : U9.cell? ⟨w.heap.size, 0, none⟩ = some (.int .i64 v0) := by rw [← hU]; ((repeat (first | (with_reducible refine cell_drew ?_) | (with_reducible refine cell_same ?_) | (with_reducible refine keep_other ?_ ?_; focus (first | assumption | omega)) | (with_reducible refine cell_off ?_ ?_; focus decide))); (repeat (first | (with_reducible refine some_drew ?_) | (with_reducible refine some_other ?_)))); rw [kr, r0]; rfl
  have nr1 : U9.cell? ⟨w.heap.size, 1, none⟩ = some (.int .i64 v1) := by rw [← hU]; ((repeat (first | (with_reducible refine cell_drew ?_) | (with_reducible refine cell_same ?_) | (with_reducible refine keep_other ?_ ?_; focus (first | assumption | omega)) | (with_reducible refine cell_off ?_ ?_; focus decide))); (repeat (first | (with_reducible refine some_drew ?_) | (with_reducible refine some_other ?_)))); rw [kr, r1]; rfl
  have nr2 : U9.cell? ⟨w.heap.size, 2, none⟩ = some (.int .i64 v2) := by rw [← hU]; ((repeat (first | (with_reducible refine cell_drew ?_) | (with_reducible refine cell_same ?_) | (with_reducible refine keep_other ?_ ?_; focus (first | assumption | omega)) | (with_reducible refine cell_off ?_ ?_; focus decide))); (repeat (first | (with_reducible refine some_drew ?_) | (with_reducible refine some_other ?_)))); rw [kr, r2]; rfl
  have nr3 : U9.cell? ⟨w.heap.size, 3, none⟩ = some (.int .i64 v3) := by rw [← hU]; ((repeat (first | (with_reducible refine cell_drew ?_) | (with_reducible refine cell_same ?_) | (with_reducible refine keep_other ?_ ?_; focus (first | assumption | omega)) | (with_reducible refine cell_off ?_ ?_; focus decide))); (repeat (first | (with_reducible refine some_drew ?_) | (with_reducible refine some_other ?_)))); rw [kr, r3]; rfl
  clear hU
  refine bodyPost_ret (v := ?_) ?_ rfl ?_
  all_goals try (simp [results, Try.results54, go_sem, nr0, nr1, nr2, nr3]; exact rfl)
  exact ⟨⟨_, _, _, _, _, _, rfl, hP9, hl, hN⟩, hW9⟩
theorem drawBest_any (a : Option Addr) (n cp : Nat) (w : World) (hB0 : RowB w w.heap.size a n) (hn : n ≤ 1048576) :
    Calls Try.prog 54 #[.slice a n cp] w fun e w' => (∃ v0 v1 v2 v3 v zs, e = .returned (.tuple #[.agg #[.int .i64 v0, .int .i64 v1, .int .i64 v2, .int .i64 v3], v]) ∧ PairsOf w' w.heap.size v zs ∧ zs.length ≤ 100) ∧ Ext w w' :=
  (drawBest_nn a n cp w hB0 hn).mono fun _ _ ⟨⟨v0, v1, v2, v3, v, zs, h1, h2, h3, _⟩, h5⟩ => ⟨⟨v0, v1, v2, v3, v, zs, h1, h2, h3⟩, h5⟩
set_option maxRecDepth 100000 in
set_option maxHeartbeats 1000000 in
theorem drawAfter_nn (a : Option Addr) (n cp : Nat) (w : World) (hB0 : RowB w w.heap.size a n) (hn : n ≤ 1048576) :
    Calls Try.prog 58 #[.slice a n cp] w fun e w' => (∃ v0 v1 v2 v3 v zs, e = .returned (.tuple #[.agg #[.int .i64 v0, .int .i64 v1, .int .i64 v2, .int .i64 v3], v]) ∧ PairsOf w' w.heap.size v zs ∧ zs.length ≤ 100 ∧ NN v) ∧ Ext w w' := by
  go_enter Try.func58, Try.ntmps58
  go_upto_region 1 with fail
  generalize hW : World.alloc _ _ = W
  have xW : Ext w W := by rw [← hW]; exact (Ext.refl _).alloc _
  have hlw : w.heap.size < W.heap.size := by rw [← hW]; simp
  have hlr : w.heap.size < W.heap.size := by rw [← hW]; simp; try omega
  have r0 : W.cell? ⟨w.heap.size, 0, none⟩ = some (.int .i64 0) := by rw [← hW]; simp [go_sem]
  have rz0 : W.frozen? ⟨w.heap.size, 0, none⟩ = false := by rw [← hW]; simp
  have r1 : W.cell? ⟨w.heap.size, 1, none⟩ = some (.int .i64 0) := by rw [← hW]; simp [go_sem]
  have rz1 : W.frozen? ⟨w.heap.size, 1, none⟩ = false := by rw [← hW]; simp
  have r2 : W.cell? ⟨w.heap.size, 2, none⟩ = some (.int .i64 0) := by rw [← hW]; simp [go_sem]
  have rz2 : W.frozen? ⟨w.heap.size, 2, none⟩ = false := by rw [← hW]; simp
  have r3 : W.cell? ⟨w.heap.size, 3, none⟩ = some (.int .i64 0) := by rw [← hW]; simp [go_sem]
  have rz3 : W.frozen? ⟨w.heap.size, 3, none⟩ = false := by rw [← hW]; simp
  clear hW
  go_wp2_with (first | (go_at_call 89; refine (both_nn a n cp _ (hB0.to xW xW.size) hn).mono ?_; rintro e w1 ⟨⟨v0, v1, v2, v3, v, zs, rfl, hP, hl, hN⟩, x1⟩; have kr : ∀ o, w1.cell? ⟨w.heap.size, o, none⟩ = W.cell? ⟨w.heap.size, o, none⟩ := (fun o => x1.cells.1 _ _ hlr); have kzr : ∀ o, w1.frozen? ⟨w.heap.size, o, none⟩ = W.frozen? ⟨w.heap.size, o, none⟩ := (fun o => x1.cells.2.1 _ _ hlr)))
  generalize hU : World.setCell _ _ _ = U9
  have hW9 : Ext w U9 := by rw [← hU]; (repeat (first | (with_reducible refine Ext.drew ?_) | (with_reducible refine Ext.setCell ?_ ?_ _; rotate_left; focus (first | (simp; done) | (simp; omega) | omega)))); exact xW.trans x1
  have hP9 : PairsOf U9 w.heap.size v zs := by rw [← hU]; refine PairsOf.low ?_ xW.size; (repeat (first | (with_reducible refine PairsOf.drew ?_) | (with_reducible refine PairsOf.other ?_ ?_ _; rotate_left; focus (first | assumption | omega)))); exact hP
  have nr0 : U9.cell? ⟨w.heap.size, 0, none⟩ = some (.int .i64 v0) := by rw [← hU]; ((repeat (first | (with_reducible refine cell_drew ?_) | (with_reducible refine cell_same ?_) | (with_reducible refine keep_other ?_ ?_; focus (first | assumption | omega)) | (with_reducible refine cell_off ?_ ?_; focus decide))); (repeat (first | (with_reducible refine some_drew ?_) | (with_reducible refine some_other ?_)))); rw [kr, r0]; rfl
  have nr1 : U9.cell? ⟨w.heap.size, 1, none⟩ = some (.int .i64 v1) := by rw [← hU]; ((repeat (first | (with_reducible refine cell_drew ?_) | (with_reducible refine cell_same ?_) | (with_reducible refine keep_other ?_ ?_; focus (first | assumption | omega)) | (with_reducible refine cell_off ?_ ?_; focus decide))); (repeat (first | (with_reducible refine some_drew ?_) | (with_reducible refine some_other ?_)))); rw [kr, r1]; rfl
  have nr2 : U9.cell? ⟨w.heap.size, 2, none⟩ = some (.int .i64 v2) := by rw [← hU]; ((repeat (first | (with_reducible refine cell_drew ?_) | (with_reducible refine cell_same ?_) | (with_reducible refine keep_other ?_ ?_; focus (first | assumption | omega)) | (with_reducible refine cell_off ?_ ?_; focus decide))); (repeat (first | (with_reducible refine some_drew ?_) | (with_reducible refine some_other ?_)))); rw [kr, r2]; rfl
  have nr3 : U9.cell? ⟨w.heap.size, 3, none⟩ = some (.int .i64 v3) := by rw [← hU]; ((repeat (first | (with_reducible refine cell_drew ?_) | (with_reducible refine cell_same ?_) | (with_reducible refine keep_other ?_ ?_; focus (first | assumption | omega)) | (with_reducible refine cell_off ?_ ?_; focus decide))); (repeat (first | (with_reducible refine some_drew ?_) | (with_reducible refine some_other ?_)))); rw [kr, r3]; rfl
  clear hU
  refine bodyPost_ret (v := ?_) ?_ rfl ?_
  all_goals try (simp [results, Try.results58, go_sem, nr0, nr1, nr2, nr3]; exact rfl)
  exact ⟨⟨_, _, _, _, _, _, rfl, hP9, hl, hN⟩, hW9⟩
theorem drawAfter_any (a : Option Addr) (n cp : Nat) (w : World) (hB0 : RowB w w.heap.size a n) (hn : n ≤ 1048576) :
    Calls Try.prog 58 #[.slice a n cp] w fun e w' => (∃ v0 v1 v2 v3 v zs, e = .returned (.tuple #[.agg #[.int .i64 v0, .int .i64 v1, .int .i64 v2, .int .i64 v3], v]) ∧ PairsOf w' w.heap.size v zs ∧ zs.length ≤ 100) ∧ Ext w w' :=
  (drawAfter_nn a n cp w hB0 hn).mono fun _ _ ⟨⟨v0, v1, v2, v3, v, zs, h1, h2, h3, _⟩, h5⟩ => ⟨⟨v0, v1, v2, v3, v, zs, h1, h2, h3⟩, h5⟩
end Go.Proofs.Ytiodlbgfgeimoaa
