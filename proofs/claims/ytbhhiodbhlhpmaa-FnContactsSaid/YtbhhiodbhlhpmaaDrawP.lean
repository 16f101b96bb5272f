/-
  What the laws on two profiles draw from a code.
-/
import Derived.Test.YtbhhiodbhlhpmaaDrawA
namespace Go.Proofs.Ytbhhiodbhlhpmaa
open Go.RowKit
set_option linter.unusedSimpArgs false
set_option linter.unusedVariables false
set_option maxRecDepth 100000 in
set_option maxHeartbeats 2000000 in
theorem drawPair_any (g n cp k : Nat) (a : Option Addr) (w : World) (hS : Src w g a n cp k) (hB : RowB w g a n) (hk : k ≤ 500000) (hn : n ≤ 1048576) :
    Calls Try.prog 81 #[.pointer (some ⟨g, 0, none⟩)] w fun e w' => (∃ v0 v1 v2 v3 v4 v5 u0 u1 u2 u3 u4 u5, e = .returned (.tuple #[.agg #[.int .i64 v0, .int .i64 v1, .int .i64 v2, .int .i64 v3, .int .i64 v4, .int .i64 v5], .agg #[.int .i64 u0, .int .i64 u1, .int .i64 u2, .int .i64 u3, .int .i64 u4, .int .i64 u5]])) ∧ Src w' g a n cp (k + 50) ∧ Wrote (some g) w w' := by
  have hlg := hS.lt
  go_enter Try.func81, Try.ntmps81
  go_upto_region 1 with fail
  generalize hW : World.alloc (World.alloc _ _) _ = W
  have xW : Ext w W := by rw [← hW]; exact ((Ext.refl _).alloc _).alloc _
  have hlr : w.heap.size < W.heap.size := by rw [← hW]; simp; try omega
  have r0 : W.cell? ⟨w.heap.size, 0, none⟩ = some (.int .i64 0) := by rw [← hW]; simp [go_sem]
  have rz0 : W.frozen? ⟨w.heap.size, 0, none⟩ = false := by rw [← hW]; simp
  have r1 : W.cell? ⟨w.heap.size, 1, none⟩ = some (.int .i64 0) := by rw [← hW]; simp [go_sem]
  have rz1 : W.frozen? ⟨w.heap.size, 1, none⟩ = false := by rw [← hW]; simp
  have r2 : W.cell? ⟨w.heap.size, 2, none⟩ = some (.int .i64 0) := by rw [← hW]; simp [go_sem]
  have rz2 : W.frozen? ⟨w.heap.size, 2, none⟩ = false := by rw [← hW]; simp
  have r3 : W.cell? ⟨w.heap.size, 3, none⟩ = some (.int .i64 0) := by rw [← hW]; simp [go_sem]
  have rz3 : W.frozen? ⟨w.heap.size, 3, none⟩ = false := by rw [← hW]; simp
  have r4 : W.cell? ⟨w.heap.size, 4, none⟩ = some (.int .i64 0) := by rw [← hW]; simp [go_sem]
  have rz4 : W.frozen? ⟨w.heap.size, 4, none⟩ = false := by rw [← hW]; simp
  have r5 : W.cell? ⟨w.heap.size, 5, none⟩ = some (.int .i64 0) := by rw [← hW]; simp [go_sem]
  have rz5 : W.frozen? ⟨w.heap.size, 5, none⟩ = false := by rw [← hW]; simp
  have hlt : w.heap.size + 1 < W.heap.size := by rw [← hW]; simp; try omega
  have t0 : W.cell? ⟨w.heap.size + 1, 0, none⟩ = some (.int .i64 0) := by rw [← hW]; simp [go_sem]
  have tz0 : W.frozen? ⟨w.heap.size + 1, 0, none⟩ = false := by rw [← hW]; simp
  have t1 : W.cell? ⟨w.heap.size + 1, 1, none⟩ = some (.int .i64 0) := by rw [← hW]; simp [go_sem]
  have tz1 : W.frozen? ⟨w.heap.size + 1, 1, none⟩ = false := by rw [← hW]; simp
  have t2 : W.cell? ⟨w.heap.size + 1, 2, none⟩ = some (.int .i64 0) := by rw [← hW]; simp [go_sem]
  have tz2 : W.frozen? ⟨w.heap.size + 1, 2, none⟩ = false := by rw [← hW]; simp
  have t3 : W.cell? ⟨w.heap.size + 1, 3, none⟩ = some (.int .i64 0) := by rw [← hW]; simp [go_sem]
  have tz3 : W.frozen? ⟨w.heap.size + 1, 3, none⟩ = false := by rw [← hW]; simp
  have t4 : W.cell? ⟨w.heap.size + 1, 4, none⟩ = some (.int .i64 0) := by rw [← hW]; simp [go_sem]
  have tz4 : W.frozen? ⟨w.heap.size + 1, 4, none⟩ = false := by rw [← hW]; simp
  have t5 : W.cell? ⟨w.heap.size + 1, 5, none⟩ = some (.int .i64 0) := by rw [← hW]; simp [go_sem]
  have tz5 : W.frozen? ⟨w.heap.size + 1, 5, none⟩ = false := by rw [← hW]; simp
  clear hW
  have hner : some w.heap.size ≠ some g := fun e => by injection e; omega
  have hnet : some (w.heap.size + 1) ≠ some g := fun e => by injection e; omega
  replace hS := hS.ext xW
  replace hB := hB.ext xW
  have hwW : Wrote (some g) w W := Wrote.of_ext _ xW
  have hsW := xW.size
  clear xW
  go_upto_region 2 with (first | (go_at_call 82; refine (drawBentProf_any g n cp _ a _ hS hB (by omega) hn).mono ?_; rintro e w1 ⟨⟨v0, v1, v2, v3, v4, v5, rfl⟩, hS2, hWc⟩))
  generalize hV : World.alloc _ _ = V
  have xV : Ext w1 V := by rw [← hV]; exact (Ext.refl _).alloc _
  have hX : Wrote (some g) W V := hWc.trans (Wrote.of_ext _ xV)
  have hs1 := hWc.size
  have hxr : w1.heap.size ≠ w.heap.size := by omega
  have hrx : w.heap.size ≠ w1.heap.size := by omega
  have hxt : w1.heap.size ≠ w.heap.size + 1 := by omega
  have htx : w.heap.size + 1 ≠ w1.heap.size := by omega
  have hwx : w.heap.size ≤ w1.heap.size := by omega
  replace r0 := (hX.cell hlr hner).trans r0
  replace rz0 := (hX.free hlr hner).trans rz0
  replace r1 := (hX.cell hlr hner).trans r1
  replace rz1 := (hX.free hlr hner).trans rz1
  replace r2 := (hX.cell hlr hner).trans r2
  replace rz2 := (hX.free hlr hner).trans rz2
  replace r3 := (hX.cell hlr hner).trans r3
  replace rz3 := (hX.free hlr hner).trans rz3
  replace r4 := (hX.cell hlr hner).trans r4
  replace rz4 := (hX.free hlr hner).trans rz4
  replace r5 := (hX.cell hlr hner).trans r5
  replace rz5 := (hX.free hlr hner).trans rz5
  replace hlr := Nat.lt_of_lt_of_le hlr hX.size
  replace t0 := (hX.cell hlt hnet).trans t0
  replace tz0 := (hX.free hlt hnet).trans tz0
  replace t1 := (hX.cell hlt hnet).trans t1
  replace tz1 := (hX.free hlt hnet).trans tz1
  replace t2 := (hX.cell hlt hnet).trans t2
  replace tz2 := (hX.free hlt hnet).trans tz2
  replace t3 := (hX.cell hlt hnet).trans t3
  replace tz3 := (hX.free hlt hnet).trans tz3
  replace t4 := (hX.cell hlt hnet).trans t4
  replace tz4 := (hX.free hlt hnet).trans tz4
  replace t5 := (hX.cell hlt hnet).trans t5
  replace tz5 := (hX.free hlt hnet).trans tz5
  replace hlt := Nat.lt_of_lt_of_le hlt hX.size
  have hlx : w1.heap.size < V.heap.size := by rw [← hV]; simp; try omega
  have x0 : V.cell? ⟨w1.heap.size, 0, none⟩ = some (.int .i64 v0) := by rw [← hV]; simp [go_sem]
  have xz0 : V.frozen? ⟨w1.heap.size, 0, none⟩ = false := by rw [← hV]; simp
  have x1 : V.cell? ⟨w1.heap.size, 1, none⟩ = some (.int .i64 v1) := by rw [← hV]; simp [go_sem]
  have xz1 : V.frozen? ⟨w1.heap.size, 1, none⟩ = false := by rw [← hV]; simp
  have x2 : V.cell? ⟨w1.heap.size, 2, none⟩ = some (.int .i64 v2) := by rw [← hV]; simp [go_sem]
  have xz2 : V.frozen? ⟨w1.heap.size, 2, none⟩ = false := by rw [← hV]; simp
  have x3 : V.cell? ⟨w1.heap.size, 3, none⟩ = some (.int .i64 v3) := by rw [← hV]; simp [go_sem]
  have xz3 : V.frozen? ⟨w1.heap.size, 3, none⟩ = false := by rw [← hV]; simp
  have x4 : V.cell? ⟨w1.heap.size, 4, none⟩ = some (.int .i64 v4) := by rw [← hV]; simp [go_sem]
  have xz4 : V.frozen? ⟨w1.heap.size, 4, none⟩ = false := by rw [← hV]; simp
  have x5 : V.cell? ⟨w1.heap.size, 5, none⟩ = some (.int .i64 v5) := by rw [← hV]; simp [go_sem]
  have xz5 : V.frozen? ⟨w1.heap.size, 5, none⟩ = false := by rw [← hV]; simp
  have hnex : some w1.heap.size ≠ some g := fun e => by injection e; have := hS2.lt; omega
  replace hB := hB.wrote hX
  replace hS := hS2.ext xV
  replace hwW := hwW.trans hX
  replace hsW : w.heap.size ≤ V.heap.size := by have := hX.size; omega
  clear hV hWc hS2 xV hX hs1
  generalize w1.heap.size = gX at *
  go_upto_region 3 with (first | (go_at_call 82; refine (drawBentProf_any g n cp _ a _ hS hB (by omega) hn).mono ?_; rintro e w2 ⟨⟨u0, u1, u2, u3, u4, u5, rfl⟩, hS2, hWc⟩))
  generalize hV : World.alloc _ _ = U
  have xV : Ext w2 U := by rw [← hV]; exact (Ext.refl _).alloc _
  have hX : Wrote (some g) V U := hWc.trans (Wrote.of_ext _ xV)
  have hs1 := hWc.size
  have hyr : w2.heap.size ≠ w.heap.size := by omega
  have hry : w.heap.size ≠ w2.heap.size := by omega
  have hyt : w2.heap.size ≠ w.heap.size + 1 := by omega
  have hty : w.heap.size + 1 ≠ w2.heap.size := by omega
  have hyx : w2.heap.size ≠ gX := by omega
  have hxy : gX ≠ w2.heap.size := by omega
  have hwy : w.heap.size ≤ w2.heap.size := by omega
  replace r0 := (hX.cell hlr hner).trans r0
  replace rz0 := (hX.free hlr hner).trans rz0
  replace r1 := (hX.cell hlr hner).trans r1
  replace rz1 := (hX.free hlr hner).trans rz1
  replace r2 := (hX.cell hlr hner).trans r2
  replace rz2 := (hX.free hlr hner).trans rz2
  replace r3 := (hX.cell hlr hner).trans r3
  replace rz3 := (hX.free hlr hner).trans rz3
  replace r4 := (hX.cell hlr hner).trans r4
  replace rz4 := (hX.free hlr hner).trans rz4
  replace r5 := (hX.cell hlr hner).trans r5
  replace rz5 := (hX.free hlr hner).trans rz5
  replace hlr := Nat.lt_of_lt_of_le hlr hX.size
  replace t0 := (hX.cell hlt hnet).trans t0
  replace tz0 := (hX.free hlt hnet).trans tz0
  replace t1 := (hX.cell hlt hnet).trans t1
  replace tz1 := (hX.free hlt hnet).trans tz1
  replace t2 := (hX.cell hlt hnet).trans t2
  replace tz2 := (hX.free hlt hnet).trans tz2
  replace t3 := (hX.cell hlt hnet).trans t3
  replace tz3 := (hX.free hlt hnet).trans tz3
  replace t4 := (hX.cell hlt hnet).trans t4
  replace tz4 := (hX.free hlt hnet).trans tz4
  replace t5 := (hX.cell hlt hnet).trans t5
  replace tz5 := (hX.free hlt hnet).trans tz5
  replace hlt := Nat.lt_of_lt_of_le hlt hX.size
  replace x0 := (hX.cell hlx hnex).trans x0
  replace xz0 := (hX.free hlx hnex).trans xz0
  replace x1 := (hX.cell hlx hnex).trans x1
  replace xz1 := (hX.free hlx hnex).trans xz1
  replace x2 := (hX.cell hlx hnex).trans x2
  replace xz2 := (hX.free hlx hnex).trans xz2
  replace x3 := (hX.cell hlx hnex).trans x3
  replace xz3 := (hX.free hlx hnex).trans xz3
  replace x4 := (hX.cell hlx hnex).trans x4
  replace xz4 := (hX.free hlx hnex).trans xz4
  replace x5 := (hX.cell hlx hnex).trans x5
  replace xz5 := (hX.free hlx hnex).trans xz5
  replace hlx := Nat.lt_of_lt_of_le hlx hX.size
  have hly : w2.heap.size < U.heap.size := by rw [← hV]; simp; try omega
  have y0 : U.cell? ⟨w2.heap.size, 0, none⟩ = some (.int .i64 u0) := by rw [← hV]; simp [go_sem]
  have yz0 : U.frozen? ⟨w2.heap.size, 0, none⟩ = false := by rw [← hV]; simp
  have y1 : U.cell? ⟨w2.heap.size, 1, none⟩ = some (.int .i64 u1) := by rw [← hV]; simp [go_sem]
  have yz1 : U.frozen? ⟨w2.heap.size, 1, none⟩ = false := by rw [← hV]; simp
  have y2 : U.cell? ⟨w2.heap.size, 2, none⟩ = some (.int .i64 u2) := by rw [← hV]; simp [go_sem]
  have yz2 : U.frozen? ⟨w2.heap.size, 2, none⟩ = false := by rw [← hV]; simp
  have y3 : U.cell? ⟨w2.heap.size, 3, none⟩ = some (.int .i64 u3) := by rw [← hV]; simp [go_sem]
  have yz3 : U.frozen? ⟨w2.heap.size, 3, none⟩ = false := by rw [← hV]; simp
  have y4 : U.cell? ⟨w2.heap.size, 4, none⟩ = some (.int .i64 u4) := by rw [← hV]; simp [go_sem]
  have yz4 : U.frozen? ⟨w2.heap.size, 4, none⟩ = false := by rw [← hV]; simp
  have y5 : U.cell? ⟨w2.heap.size, 5, none⟩ = some (.int .i64 u5) := by rw [← hV]; simp [go_sem]
  have yz5 : U.frozen? ⟨w2.heap.size, 5, none⟩ = false := by rw [← hV]; simp
  have hney : some w2.heap.size ≠ some g := fun e => by injection e; have := hS2.lt; omega
  replace hB := hB.wrote hX
  replace hS := hS2.ext xV
  replace hwW := hwW.trans hX
  replace hsW : w.heap.size ≤ U.heap.size := by have := hX.size; omega
  clear hV hWc hS2 xV hX hs1
  generalize w2.heap.size = gY at *
  have hW0 := Wrote.refl (some g) U
  go_upto_region 6 with (first | (go_at_call 72; refine (one_any g n cp _ _ a _ hS hB (by omega) hn).mono ?_; rintro e w9 ⟨x, rfl, hS2, hWc⟩; replace hW0 := hW0.trans hWc; have kr : ∀ o, w9.cell? ⟨w.heap.size, o, none⟩ = _ := (fun o => hW0.cell hlr hner); have kzr : ∀ o, w9.frozen? ⟨w.heap.size, o, none⟩ = _ := (fun o => hW0.free hlr hner); have kt : ∀ o, w9.cell? ⟨w.heap.size + 1, o, none⟩ = _ := (fun o => hW0.cell hlt hnet); have kzt : ∀ o, w9.frozen? ⟨w.heap.size + 1, o, none⟩ = _ := (fun o => hW0.free hlt hnet); have kx : ∀ o, w9.cell? ⟨gX, o, none⟩ = _ := (fun o => hW0.cell hlx hnex); have kzx : ∀ o, w9.frozen? ⟨gX, o, none⟩ = _ := (fun o => hW0.free hlx hnex); have ky : ∀ o, w9.cell? ⟨gY, o, none⟩ = _ := (fun o => hW0.cell hly hney); have kzy : ∀ o, w9.frozen? ⟨gY, o, none⟩ = _ := (fun o => hW0.free hly hney); clear hS hWc))
  · go_region
    generalize hU : World.drew _ = U9
    have hS9 : Src U9 g a n cp (k + 50) := by rw [← hU]; (repeat (first | (with_reducible refine Src.drew ?_) | (with_reducible refine Src.other ?_ ?_ _; rotate_left; focus (first | (simp; done) | (simp; omega) | omega)))); exact hS2.more (by omega)
    have hW9 : Wrote (some g) w U9 := by rw [← hU]; (repeat (first | (with_reducible refine Wrote.drewr ?_) | (with_reducible refine Wrote.fresh ?_ ?_ _; rotate_left; focus (first | (simp; done) | (simp; omega) | omega)))); exact hwW.trans hW0
    have nr0 : U9.cell? ⟨w.heap.size, 0, none⟩ = some (.int .i64 v0) := by rw [← hU]; ((repeat (first | (with_reducible refine cell_drew ?_) | (with_reducible refine cell_same ?_) | (with_reducible refine keep_other ?_ ?_; focus (first | assumption | omega)) | (with_reducible refine cell_off ?_ ?_; focus decide))); (repeat (first | (with_reducible refine some_drew ?_) | (with_reducible refine some_other ?_)))); rw [kr, r0]; rfl
    have nr1 : U9.cell? ⟨w.heap.size, 1, none⟩ = some (.int .i64 v1) := by rw [← hU]; ((repeat (first | (with_reducible refine cell_drew ?_) | (with_reducible refine cell_same ?_) | (with_reducible refine keep_other ?_ ?_; focus (first | assumption | omega)) | (with_reducible refine cell_off ?_ ?_; focus decide))); (repeat (first | (with_reducible refine some_drew ?_) | (with_reducible refine some_other ?_)))); rw [kr, r1]; rfl
    have nr2 : U9.cell? ⟨w.heap.size, 2, none⟩ = some (.int .i64 v2) := by rw [← hU]; ((repeat (first | (with_reducible refine cell_drew ?_) | (with_reducible refine cell_same ?_) | (with_reducible refine keep_other ?_ ?_; focus (first | assumption | omega)) | (with_reducible refine cell_off ?_ ?_; focus decide))); (repeat (first | (with_reducible refine some_drew ?_) | (with_reducible refine some_other ?_)))); rw [kr, r2]; rfl
    have nr3 : U9.cell? ⟨w.heap.size, 3, none⟩ = some (.int .i64 v3) := by rw [← hU]; ((repeat (first | (with_reducible refine cell_drew ?_) | (with_reducible refine cell_same ?_) | (with_reducible refine keep_other ?_ ?_; focus (first | assumption | omega)) | (with_reducible refine cell_off ?_ ?_; focus decide))); (repeat (first | (with_reducible refine some_drew ?_) | (with_reducible refine some_other ?_)))); rw [kr, r3]; rfl
    have nr4 : U9.cell? ⟨w.heap.size, 4, none⟩ = some (.int .i64 v4) := by rw [← hU]; ((repeat (first | (with_reducible refine cell_drew ?_) | (with_reducible refine cell_same ?_) | (with_reducible refine keep_other ?_ ?_; focus (first | assumption | omega)) | (with_reducible refine cell_off ?_ ?_; focus decide))); (repeat (first | (with_reducible refine some_drew ?_) | (with_reducible refine some_other ?_)))); rw [kr, r4]; rfl
    have nr5 : U9.cell? ⟨w.heap.size, 5, none⟩ = some (.int .i64 v5) := by rw [← hU]; ((repeat (first | (with_reducible refine cell_drew ?_) | (with_reducible refine cell_same ?_) | (with_reducible refine keep_other ?_ ?_; focus (first | assumption | omega)) | (with_reducible refine cell_off ?_ ?_; focus decide))); (repeat (first | (with_reducible refine some_drew ?_) | (with_reducible refine some_other ?_)))); rw [kr, r5]; rfl
    have nt0 : U9.cell? ⟨w.heap.size + 1, 0, none⟩ = some (.int .i64 u0) := by rw [← hU]; ((repeat (first | (with_reducible refine cell_drew ?_) | (with_reducible refine cell_same ?_) | (with_reducible refine keep_other ?_ ?_; focus (first | assumption | omega)) | (with_reducible refine cell_off ?_ ?_; focus decide))); (repeat (first | (with_reducible refine some_drew ?_) | (with_reducible refine some_other ?_)))); rw [kt, t0]; rfl
    have nt1 : U9.cell? ⟨w.heap.size + 1, 1, none⟩ = some (.int .i64 v1) := by rw [← hU]; ((repeat (first | (with_reducible refine cell_drew ?_) | (with_reducible refine cell_same ?_) | (with_reducible refine keep_other ?_ ?_; focus (first | assumption | omega)) | (with_reducible refine cell_off ?_ ?_; focus decide))); (repeat (first | (with_reducible refine some_drew ?_) | (with_reducible refine some_other ?_)))); rw [kt, t1]; rfl
    have nt2 : U9.cell? ⟨w.heap.size + 1, 2, none⟩ = some (.int .i64 u2) := by rw [← hU]; ((repeat (first | (with_reducible refine cell_drew ?_) | (with_reducible refine cell_same ?_) | (with_reducible refine keep_other ?_ ?_; focus (first | assumption | omega)) | (with_reducible refine cell_off ?_ ?_; focus decide))); (repeat (first | (with_reducible refine some_drew ?_) | (with_reducible refine some_other ?_)))); rw [kt, t2]; rfl
    have nt3 : U9.cell? ⟨w.heap.size + 1, 3, none⟩ = some (.int .i64 v3) := by rw [← hU]; ((repeat (first | (with_reducible refine cell_drew ?_) | (with_reducible refine cell_same ?_) | (with_reducible refine keep_other ?_ ?_; focus (first | assumption | omega)) | (with_reducible refine cell_off ?_ ?_; focus decide))); (repeat (first | (with_reducible refine some_drew ?_) | (with_reducible refine some_other ?_)))); rw [kt, t3]; rfl
    have nt4 : U9.cell? ⟨w.heap.size + 1, 4, none⟩ = some (.int .i64 v4) := by rw [← hU]; ((repeat (first | (with_reducible refine cell_drew ?_) | (with_reducible refine cell_same ?_) | (with_reducible refine keep_other ?_ ?_; focus (first | assumption | omega)) | (with_reducible refine cell_off ?_ ?_; focus decide))); (repeat (first | (with_reducible refine some_drew ?_) | (with_reducible refine some_other ?_)))); rw [kt, t4]; rfl
    have nt5 : U9.cell? ⟨w.heap.size + 1, 5, none⟩ = some (.int .i64 v5) := by rw [← hU]; ((repeat (first | (with_reducible refine cell_drew ?_) | (with_reducible refine cell_same ?_) | (with_reducible refine keep_other ?_ ?_; focus (first | assumption | omega)) | (with_reducible refine cell_off ?_ ?_; focus decide))); (repeat (first | (with_reducible refine some_drew ?_) | (with_reducible refine some_other ?_)))); rw [kt, t5]; rfl
    clear hU
    go_wp2_with fail
    refine bodyPost_ret (v := ?_) ?_ rfl ?_
    all_goals try (simp [results, Try.results81, go_sem, nr0, nr1, nr2, nr3, nr4, nr5, nt0, nt1, nt2, nt3, nt4, nt5]; exact rfl)
    exact ⟨⟨_, _, _, _, _, _, _, _, _, _, _, _, rfl⟩, hS9, hW9⟩
  · go_region
    generalize hU : World.drew _ = U9
    have hS9 : Src U9 g a n cp (k + 50) := by rw [← hU]; (repeat (first | (with_reducible refine Src.drew ?_) | (with_reducible refine Src.other ?_ ?_ _; rotate_left; focus (first | (simp; done) | (simp; omega) | omega)))); exact hS2.more (by omega)
    have hW9 : Wrote (some g) w U9 := by rw [← hU]; (repeat (first | (with_reducible refine Wrote.drewr ?_) | (with_reducible refine Wrote.fresh ?_ ?_ _; rotate_left; focus (first | (simp; done) | (simp; omega) | omega)))); exact hwW.trans hW0
    have nr0 : U9.cell? ⟨w.heap.size, 0, none⟩ = some (.int .i64 v0) := by rw [← hU]; ((repeat (first | (with_reducible refine cell_drew ?_) | (with_reducible refine cell_same ?_) | (with_reducible refine keep_other ?_ ?_; focus (first | assumption | omega)) | (with_reducible refine cell_off ?_ ?_; focus decide))); (repeat (first | (with_reducible refine some_drew ?_) | (with_reducible refine some_other ?_)))); rw [kr, r0]; rfl
    have nr1 : U9.cell? ⟨w.heap.size, 1, none⟩ = some (.int .i64 v1) := by rw [← hU]; ((repeat (first | (with_reducible refine cell_drew ?_) | (with_reducible refine cell_same ?_) | (with_reducible refine keep_other ?_ ?_; focus (first | assumption | omega)) | (with_reducible refine cell_off ?_ ?_; focus decide))); (repeat (first | (with_reducible refine some_drew ?_) | (with_reducible refine some_other ?_)))); rw [kr, r1]; rfl
    have nr2 : U9.cell? ⟨w.heap.size, 2, none⟩ = some (.int .i64 v2) := by rw [← hU]; ((repeat (first | (with_reducible refine cell_drew ?_) | (with_reducible refine cell_same ?_) | (with_reducible refine keep_other ?_ ?_; focus (first | assumption | omega)) | (with_reducible refine cell_off ?_ ?_; focus decide))); (repeat (first | (with_reducible refine some_drew ?_) | (with_reducible refine some_other ?_)))); rw [kr, r2]; rfl
    have nr3 : U9.cell? ⟨w.heap.size, 3, none⟩ = some (.int .i64 v3) := by rw [← hU]; ((repeat (first | (with_reducible refine cell_drew ?_) | (with_reducible refine cell_same ?_) | (with_reducible refine keep_other ?_ ?_; focus (first | assumption | omega)) | (with_reducible refine cell_off ?_ ?_; focus decide))); (repeat (first | (with_reducible refine some_drew ?_) | (with_reducible refine some_other ?_)))); rw [kr, r3]; rfl
    have nr4 : U9.cell? ⟨w.heap.size, 4, none⟩ = some (.int .i64 v4) := by rw [← hU]; ((repeat (first | (with_reducible refine cell_drew ?_) | (with_reducible refine cell_same ?_) | (with_reducible refine keep_other ?_ ?_; focus (first | assumption | omega)) | (with_reducible refine cell_off ?_ ?_; focus decide))); (repeat (first | (with_reducible refine some_drew ?_) | (with_reducible refine some_other ?_)))); rw [kr, r4]; rfl
    have nr5 : U9.cell? ⟨w.heap.size, 5, none⟩ = some (.int .i64 v5) := by rw [← hU]; ((repeat (first | (with_reducible refine cell_drew ?_) | (with_reducible refine cell_same ?_) | (with_reducible refine keep_other ?_ ?_; focus (first | assumption | omega)) | (with_reducible refine cell_off ?_ ?_; focus decide))); (repeat (first | (with_reducible refine some_drew ?_) | (with_reducible refine some_other ?_)))); rw [kr, r5]; rfl
    have nt0 : U9.cell? ⟨w.heap.size + 1, 0, none⟩ = some (.int .i64 u0) := by rw [← hU]; ((repeat (first | (with_reducible refine cell_drew ?_) | (with_reducible refine cell_same ?_) | (with_reducible refine keep_other ?_ ?_; focus (first | assumption | omega)) | (with_reducible refine cell_off ?_ ?_; focus decide))); (repeat (first | (with_reducible refine some_drew ?_) | (with_reducible refine some_other ?_)))); rw [kt, t0]; rfl
    have nt1 : U9.cell? ⟨w.heap.size + 1, 1, none⟩ = some (.int .i64 u1) := by rw [← hU]; ((repeat (first | (with_reducible refine cell_drew ?_) | (with_reducible refine cell_same ?_) | (with_reducible refine keep_other ?_ ?_; focus (first | assumption | omega)) | (with_reducible refine cell_off ?_ ?_; focus decide))); (repeat (first | (with_reducible refine some_drew ?_) | (with_reducible refine some_other ?_)))); rw [kt, t1]; rfl
    have nt2 : U9.cell? ⟨w.heap.size + 1, 2, none⟩ = some (.int .i64 u2) := by rw [← hU]; ((repeat (first | (with_reducible refine cell_drew ?_) | (with_reducible refine cell_same ?_) | (with_reducible refine keep_other ?_ ?_; focus (first | assumption | omega)) | (with_reducible refine cell_off ?_ ?_; focus decide))); (repeat (first | (with_reducible refine some_drew ?_) | (with_reducible refine some_other ?_)))); rw [kt, t2]; rfl
    have nt3 : U9.cell? ⟨w.heap.size + 1, 3, none⟩ = some (.int .i64 u3) := by rw [← hU]; ((repeat (first | (with_reducible refine cell_drew ?_) | (with_reducible refine cell_same ?_) | (with_reducible refine keep_other ?_ ?_; focus (first | assumption | omega)) | (with_reducible refine cell_off ?_ ?_; focus decide))); (repeat (first | (with_reducible refine some_drew ?_) | (with_reducible refine some_other ?_)))); rw [kt, t3]; rfl
    have nt4 : U9.cell? ⟨w.heap.size + 1, 4, none⟩ = some (.int .i64 u4) := by rw [← hU]; ((repeat (first | (with_reducible refine cell_drew ?_) | (with_reducible refine cell_same ?_) | (with_reducible refine keep_other ?_ ?_; focus (first | assumption | omega)) | (with_reducible refine cell_off ?_ ?_; focus decide))); (repeat (first | (with_reducible refine some_drew ?_) | (with_reducible refine some_other ?_)))); rw [kt, t4]; rfl
    have nt5 : U9.cell? ⟨w.heap.size + 1, 5, none⟩ = some (.int .i64 u5) := by rw [← hU]; ((repeat (first | (with_reducible refine cell_drew ?_) | (with_reducible refine cell_same ?_) | (with_reducible refine keep_other ?_ ?_; focus (first | assumption | omega)) | (with_reducible refine cell_off ?_ ?_; focus decide))); (repeat (first | (with_reducible refine some_drew ?_) | (with_reducible refine some_other ?_)))); rw [kt, t5]; rfl
    clear hU
    go_wp2_with fail
    refine bodyPost_ret (v := ?_) ?_ rfl ?_
    all_goals try (simp [results, Try.results81, go_sem, nr0, nr1, nr2, nr3, nr4, nr5, nt0, nt1, nt2, nt3, nt4, nt5]; exact rfl)
    exact ⟨⟨_, _, _, _, _, _, _, _, _, _, _, _, rfl⟩, hS9, hW9⟩
set_option maxRecDepth 100000 in
set_option maxHeartbeats 2000000 in
theorem drawInter_any (a : Option Addr) (n cp : Nat) (w : World) (hB0 : RowB w w.heap.size a n) (hn : n ≤ 1048576) :
    Calls Try.prog 47 #[.slice a n cp] w fun e w' => (∃ v0 v1 v2 v3 v4 v5 u0 u1 u2 u3 u4 u5, e = .returned (.tuple #[.agg #[.int .i64 v0, .int .i64 v1, .int .i64 v2, .int .i64 v3, .int .i64 v4, .int .i64 v5], .agg #[.int .i64 u0, .int .i64 u1, .int .i64 u2, .int .i64 u3, .int .i64 u4, .int .i64 u5]])) ∧ Ext w w' := by
  go_enter Try.func47, Try.ntmps47
  go_upto_region 1 with fail
  generalize hW : World.alloc (World.alloc _ _) _ = W
  have xW : Ext w W := by rw [← hW]; exact ((Ext.refl _).alloc _).alloc _
  have hlr : w.heap.size < W.heap.size := by rw [← hW]; simp; try omega
  have r0 : W.cell? ⟨w.heap.size, 0, none⟩ = some (.int .i64 0) := by rw [← hW]; simp [go_sem]
  have rz0 : W.frozen? ⟨w.heap.size, 0, none⟩ = false := by rw [← hW]; simp
  have r1 : W.cell? ⟨w.heap.size, 1, none⟩ = some (.int .i64 0) := by rw [← hW]; simp [go_sem]
  have rz1 : W.frozen? ⟨w.heap.size, 1, none⟩ = false := by rw [← hW]; simp
  have r2 : W.cell? ⟨w.heap.size, 2, none⟩ = some (.int .i64 0) := by rw [← hW]; simp [go_sem]
  have rz2 : W.frozen? ⟨w.heap.size, 2, none⟩ = false := by rw [← hW]; simp
  have r3 : W.cell? ⟨w.heap.size, 3, none⟩ = some (.int .i64 0) := by rw [← hW]; simp [go_sem]
  have rz3 : W.frozen? ⟨w.heap.size, 3, none⟩ = false := by rw [← hW]; simp
  have r4 : W.cell? ⟨w.heap.size, 4, none⟩ = some (.int .i64 0) := by rw [← hW]; simp [go_sem]
  have rz4 : W.frozen? ⟨w.heap.size, 4, none⟩ = false := by rw [← hW]; simp
  have r5 : W.cell? ⟨w.heap.size, 5, none⟩ = some (.int .i64 0) := by rw [← hW]; simp [go_sem]
  have rz5 : W.frozen? ⟨w.heap.size, 5, none⟩ = false := by rw [← hW]; simp
  have hlt : w.heap.size + 1 < W.heap.size := by rw [← hW]; simp; try omega
  have t0 : W.cell? ⟨w.heap.size + 1, 0, none⟩ = some (.int .i64 0) := by rw [← hW]; simp [go_sem]
  have tz0 : W.frozen? ⟨w.heap.size + 1, 0, none⟩ = false := by rw [← hW]; simp
  have t1 : W.cell? ⟨w.heap.size + 1, 1, none⟩ = some (.int .i64 0) := by rw [← hW]; simp [go_sem]
  have tz1 : W.frozen? ⟨w.heap.size + 1, 1, none⟩ = false := by rw [← hW]; simp
  have t2 : W.cell? ⟨w.heap.size + 1, 2, none⟩ = some (.int .i64 0) := by rw [← hW]; simp [go_sem]
  have tz2 : W.frozen? ⟨w.heap.size + 1, 2, none⟩ = false := by rw [← hW]; simp
  have t3 : W.cell? ⟨w.heap.size + 1, 3, none⟩ = some (.int .i64 0) := by rw [← hW]; simp [go_sem]
  have tz3 : W.frozen? ⟨w.heap.size + 1, 3, none⟩ = false := by rw [← hW]; simp
  have t4 : W.cell? ⟨w.heap.size + 1, 4, none⟩ = some (.int .i64 0) := by rw [← hW]; simp [go_sem]
  have tz4 : W.frozen? ⟨w.heap.size + 1, 4, none⟩ = false := by rw [← hW]; simp
  have t5 : W.cell? ⟨w.heap.size + 1, 5, none⟩ = some (.int .i64 0) := by rw [← hW]; simp [go_sem]
  have tz5 : W.frozen? ⟨w.heap.size + 1, 5, none⟩ = false := by rw [← hW]; simp
  clear hW
  go_wp2_with (first | (go_at_call 70; refine (l00From_any a n cp _).mono ?_; rintro e w1 ⟨rfl, hS, x1⟩; have hB := hB0.to (g' := W.heap.size) (xW.trans x1) xW.size) | (go_at_call 81; refine (drawPair_any W.heap.size n cp 0 a _ hS hB (by omega) hn).mono ?_; rintro e w2 ⟨⟨v0, v1, v2, v3, v4, v5, u0, u1, u2, u3, u4, u5, rfl⟩, hS2, hWc⟩; have x2 : Ext W w2 := Wrote.ext x1 hWc (fun k hk => by injection hk; omega); have kr : ∀ o, w2.cell? ⟨w.heap.size, o, none⟩ = W.cell? ⟨w.heap.size, o, none⟩ := (fun o => x2.cells.1 _ _ hlr); have kzr : ∀ o, w2.frozen? ⟨w.heap.size, o, none⟩ = W.frozen? ⟨w.heap.size, o, none⟩ := (fun o => x2.cells.2.1 _ _ hlr); have kt : ∀ o, w2.cell? ⟨w.heap.size + 1, o, none⟩ = W.cell? ⟨w.heap.size + 1, o, none⟩ := (fun o => x2.cells.1 _ _ hlt); have kzt : ∀ o, w2.frozen? ⟨w.heap.size + 1, o, none⟩ = W.frozen? ⟨w.heap.size + 1, o, none⟩ := (fun o => x2.cells.2.1 _ _ hlt)))
  generalize hU : World.setCell _ _ _ = U9
  have hW9 : Ext w U9 := by rw [← hU]; (repeat (first | (with_reducible refine Ext.drew ?_) | (with_reducible refine Ext.setCell ?_ ?_ _; rotate_left; focus (first | (simp; done) | (simp; omega) | omega)))); exact xW.trans x2
  have nr0 : U9.cell? ⟨w.heap.size, 0, none⟩ = some (.int .i64 v0) := by rw [← hU]; ((repeat (first | (with_reducible refine cell_drew ?_) | (with_reducible refine cell_same ?_) | (with_reducible refine keep_other ?_ ?_; focus (first | assumption | omega)) | (with_reducible refine cell_off ?_ ?_; focus decide))); (repeat (first | (with_reducible refine some_drew ?_) | (with_reducible refine some_other ?_)))); rw [kr, r0]; rfl
  have nr1 : U9.cell? ⟨w.heap.size, 1, none⟩ = some (.int .i64 v1) := by rw [← hU]; ((repeat (first | (with_reducible refine cell_drew ?_) | (with_reducible refine cell_same ?_) | (with_reducible refine keep_other ?_ ?_; focus (first | assumption | omega)) | (with_reducible refine cell_off ?_ ?_; focus decide))); (repeat (first | (with_reducible refine some_drew ?_) | (with_reducible refine some_other ?_)))); rw [kr, r1]; rfl
  have nr2 : U9.cell? ⟨w.heap.size, 2, none⟩ = some (.int .i64 v2) := by rw [← hU]; ((repeat (first | (with_reducible refine cell_drew ?_) | (with_reducible refine cell_same ?_) | (with_reducible refine keep_other ?_ ?_; focus (first | assumption | omega)) | (with_reducible refine cell_off ?_ ?_; focus decide))); (repeat (first | (with_reducible refine some_drew ?_) | (with_reducible refine some_other ?_)))); rw [kr, r2]; rfl
  have nr3 : U9.cell? ⟨w.heap.size, 3, none⟩ = some (.int .i64 v3) := by rw [← hU]; ((repeat (first | (with_reducible refine cell_drew ?_) | (with_reducible refine cell_same ?_) | (with_reducible refine keep_other ?_ ?_; focus (first | assumption | omega)) | (with_reducible refine cell_off ?_ ?_; focus decide))); (repeat (first | (with_reducible refine some_drew ?_) | (with_reducible refine some_other ?_)))); rw [kr, r3]; rfl
  have nr4 : U9.cell? ⟨w.heap.size, 4, none⟩ = some (.int .i64 v4) := by rw [← hU]; ((repeat (first | (with_reducible refine cell_drew ?_) | (with_reducible refine cell_same ?_) | (with_reducible refine keep_other ?_ ?_; focus (first | assumption | omega)) | (with_reducible refine cell_off ?_ ?_; focus decide))); (repeat (first | (with_reducible refine some_drew ?_) | (with_reducible refine some_other ?_)))); rw [kr, r4]; rfl
  have nr5 : U9.cell? ⟨w.heap.size, 5, none⟩ = some (.int .i64 v5) := by rw [← hU]; ((repeat (first | (with_reducible refine cell_drew ?_) | (with_reducible refine cell_same ?_) | (with_reducible refine keep_other ?_ ?_; focus (first | assumption | omega)) | (with_reducible refine cell_off ?_ ?_; focus decide))); (repeat (first | (with_reducible refine some_drew ?_) | (with_reducible refine some_other ?_)))); rw [kr, r5]; rfl
  have nt0 : U9.cell? ⟨w.heap.size + 1, 0, none⟩ = some (.int .i64 u0) := by rw [← hU]; ((repeat (first | (with_reducible refine cell_drew ?_) | (with_reducible refine cell_same ?_) | (with_reducible refine keep_other ?_ ?_; focus (first | assumption | omega)) | (with_reducible refine cell_off ?_ ?_; focus decide))); (repeat (first | (with_reducible refine some_drew ?_) | (with_reducible refine some_other ?_)))); rw [kt, t0]; rfl
  have nt1 : U9.cell? ⟨w.heap.size + 1, 1, none⟩ = some (.int .i64 u1) := by rw [← hU]; ((repeat (first | (with_reducible refine cell_drew ?_) | (with_reducible refine cell_same ?_) | (with_reducible refine keep_other ?_ ?_; focus (first | assumption | omega)) | (with_reducible refine cell_off ?_ ?_; focus decide))); (repeat (first | (with_reducible refine some_drew ?_) | (with_reducible refine some_other ?_)))); rw [kt, t1]; rfl
  have nt2 : U9.cell? ⟨w.heap.size + 1, 2, none⟩ = some (.int .i64 u2) := by rw [← hU]; ((repeat (first | (with_reducible refine cell_drew ?_) | (with_reducible refine cell_same ?_) | (with_reducible refine keep_other ?_ ?_; focus (first | assumption | omega)) | (with_reducible refine cell_off ?_ ?_; focus decide))); (repeat (first | (with_reducible refine some_drew ?_) | (with_reducible refine some_other ?_)))); rw [kt, t2]; rfl
  have nt3 : U9.cell? ⟨w.heap.size + 1, 3, none⟩ = some (.int .i64 u3) := by rw [← hU]; ((repeat (first | (with_reducible refine cell_drew ?_) | (with_reducible refine cell_same ?_) | (with_reducible refine keep_other ?_ ?_; focus (first | assumption | omega)) | (with_reducible refine cell_off ?_ ?_; focus decide))); (repeat (first | (with_reducible refine some_drew ?_) | (with_reducible refine some_other ?_)))); rw [kt, t3]; rfl
  have nt4 : U9.cell? ⟨w.heap.size + 1, 4, none⟩ = some (.int .i64 u4) := by rw [← hU]; ((repeat (first | (with_reducible refine cell_drew ?_) | (with_reducible refine cell_same ?_) | (with_reducible refine keep_other ?_ ?_; focus (first | assumption | omega)) | (with_reducible refine cell_off ?_ ?_; focus decide))); (repeat (first | (with_reducible refine some_drew ?_) | (with_reducible refine some_other ?_)))); rw [kt, t4]; rfl
  have nt5 : U9.cell? ⟨w.heap.size + 1, 5, none⟩ = some (.int .i64 u5) := by rw [← hU]; ((repeat (first | (with_reducible refine cell_drew ?_) | (with_reducible refine cell_same ?_) | (with_reducible refine keep_other ?_ ?_; focus (first | assumption | omega)) | (with_reducible refine cell_off ?_ ?_; focus decide))); (repeat (first | (with_reducible refine some_drew ?_) | (with_reducible refine some_other ?_)))); rw [kt, t5]; rfl
  clear hU
  refine bodyPost_ret (v := ?_) ?_ rfl ?_
  all_goals try (simp [results, Try.results47, go_sem, nr0, nr1, nr2, nr3, nr4, nr5, nt0, nt1, nt2, nt3, nt4, nt5]; exact rfl)
  exact ⟨⟨_, _, _, _, _, _, _, _, _, _, _, _, rfl⟩, hW9⟩
end Go.Proofs.Ytbhhiodbhlhpmaa
