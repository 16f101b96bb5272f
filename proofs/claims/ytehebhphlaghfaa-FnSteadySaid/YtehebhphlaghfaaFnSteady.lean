/-
  The walk of the law FnSteady.
-/
import Derived.Test.YtehebhphlaghfaaEscP
import Derived.Test.YtehebhphlaghfaaDrawsE
import Derived.Test.YtehebhphlaghfaaDice
namespace Go.Proofs.Ytehebhphlaghfaa
open Go.RowKit
set_option linter.unusedSimpArgs false
set_option linter.unusedVariables false

set_option maxRecDepth 100000 in
set_option maxHeartbeats 1000000 in
theorem fnSteady_walk (a : Option Addr) (n cp : Nat) (w : World) (hB : RowB w w.heap.size a n) :
    Calls Try.prog 5 #[.slice a n cp] w fun e w' => e = .returned (.bool true) ∧ Ext w w' := by
  by_cases hbig : 4096 < n
  · have t1 : decide (4096 < n) = true := by simpa using hbig
    go_enter Try.func5, Try.ntmps5
    go_wp2_with (first | (go_at_call 24; refine (f6big_any a n cp _).mono ?_; rintro e w1 ⟨rfl, rfl⟩; rw [t1]))
    go_ret
    exact ⟨rfl, Ext.refl _⟩
  have t1 : decide (4096 < n) = false := by simpa using hbig
  go_enter Try.func5, Try.ntmps5
  go_upto_region 4 with (first | (go_at_call 24; refine (f6big_any a n cp _).mono ?_; rintro e w1 ⟨rfl, rfl⟩; rw [t1]) | (go_at_call 25; refine (drawSteady_any a n cp _ hB (by omega)).mono ?_; rintro e w1 ⟨⟨v0, v1, v2, v3, v4, q, rfl⟩, x1⟩))
  generalize hV : World.alloc _ _ = V
  have hE : Ext w V := by rw [← hV]; exact x1.alloc _
  have hl0 : w1.heap.size < V.heap.size := by rw [← hV]; simp
  have f0 : V.cell? ⟨w1.heap.size, 0, none⟩ = some (.int .i64 v0) := by rw [← hV]; simp [go_sem]
  have f1 : V.cell? ⟨w1.heap.size, 1, none⟩ = some (.int .i64 v1) := by rw [← hV]; simp [go_sem]
  have f2 : V.cell? ⟨w1.heap.size, 2, none⟩ = some (.int .i64 v2) := by rw [← hV]; simp [go_sem]
  have f3 : V.cell? ⟨w1.heap.size, 3, none⟩ = some (.int .i64 v3) := by rw [← hV]; simp [go_sem]
  have f4 : V.cell? ⟨w1.heap.size, 4, none⟩ = some (.int .i64 v4) := by rw [← hV]; simp [go_sem]
  clear hV x1
  generalize w1.heap.size = gE at *
  have x0 := Ext.refl V
  rcases seC_cases v0 v1 v2 v3 v4 q with hc | ⟨hc, ev, hq, hs⟩ | ⟨hc, ev, hq, hr, hx, hst⟩
  · rcases hc with hc | hc
    all_goals go_wp2_with (first | (go_at_call 26; refine (implSteady_any v0 v1 v2 v3 v4 q _).mono ?_; rintro e w2 ⟨rfl, x2⟩; rw [hc]; replace x0 := x0.trans x2; clear x2; obtain ⟨xc, xf, xs⟩ := x0.cells) | (go_at_call 27; refine (specSteady_any v0 v1 v2 v3 v4 q _).mono ?_; rintro e w2 ⟨rfl, x2⟩; rw [hc]; replace x0 := x0.trans x2; clear x2 xc xf xs; obtain ⟨xc, xf, xs⟩ := x0.cells) | (go_at_call 28; refine (implStopAfter_any v0 v1 v2 v3 v4 q v4 0 _).mono ?_; rintro e w2 ⟨rfl, x2⟩; replace x0 := x0.trans x2; clear x2 xc xf xs; obtain ⟨xc, xf, xs⟩ := x0.cells))
    all_goals go_ret
    all_goals exact ⟨rfl, hE.trans x0⟩
  · have hso := so_none ev hq hs
    clear ev hq hs
    go_wp2_with (first | (go_at_call 26; refine (implSteady_any v0 v1 v2 v3 v4 q _).mono ?_; rintro e w2 ⟨rfl, x2⟩; rw [hc]; replace x0 := x0.trans x2; clear x2; obtain ⟨xc, xf, xs⟩ := x0.cells) | (go_at_call 27; refine (specSteady_any v0 v1 v2 v3 v4 q _).mono ?_; rintro e w2 ⟨rfl, x2⟩; rw [hc]; replace x0 := x0.trans x2; clear x2 xc xf xs; obtain ⟨xc, xf, xs⟩ := x0.cells) | (go_at_call 28; refine (implStopAfter_any v0 v1 v2 v3 v4 q v4 0 _).mono ?_; rintro e w2 ⟨rfl, x2⟩; rw [hso]; replace x0 := x0.trans x2; clear x2 xc xf xs; obtain ⟨xc, xf, xs⟩ := x0.cells))
    go_ret
    exact ⟨rfl, hE.trans x0⟩
  · obtain ⟨x, hxs⟩ : ∃ x, x = steady v1 v2 v3 v4 q := ⟨_, rfl⟩
    rw [← hxs] at hr hx hst
    obtain ⟨g1, g2, g3⟩ := sg_steady ev hq hx hst
    have hso := so_steady ev hq hx hst
    have hab := Lib.hid (fun y h0 hy => sg_above (y := y) ev hq h0 (by rw [← hxs]; exact hy))
    have hm := ev.bm
    clear hst hxs ev hq
    go_upto_region 12 with (first | (go_at_call 26; refine (implSteady_any v0 v1 v2 v3 v4 q _).mono ?_; rintro e w2 ⟨rfl, x2⟩; rw [hc, hr]; replace x0 := (by first | exact x0.trans x2 | exact (x0.alloc _).trans x2 | exact ((x0.alloc _).alloc _).trans x2); clear x2; (try clear xc xf xs); obtain ⟨xc, xf, xs⟩ := x0.cells) | (go_at_call 27; refine (specSteady_any v0 v1 v2 v3 v4 q _).mono ?_; rintro e w2 ⟨rfl, x2⟩; rw [hc, hr]; replace x0 := (by first | exact x0.trans x2 | exact (x0.alloc _).trans x2 | exact ((x0.alloc _).alloc _).trans x2); clear x2; (try clear xc xf xs); obtain ⟨xc, xf, xs⟩ := x0.cells) | (go_at_call 29; refine (implSwing_any v0 v1 v2 v3 v4 q x 0 _).mono ?_; rintro e w2 ⟨rfl, x2⟩; rw [g1, g2, g3]; replace x0 := (by first | exact x0.trans x2 | exact (x0.alloc _).trans x2 | exact ((x0.alloc _).alloc _).trans x2); clear x2; (try clear xc xf xs); obtain ⟨xc, xf, xs⟩ := x0.cells) | (go_at_call 28; refine (implStopAfter_any v0 v1 v2 v3 v4 q x 0 _).mono ?_; rintro e w2 ⟨rfl, x2⟩; rw [hso]; replace x0 := (by first | exact x0.trans x2 | exact (x0.alloc _).trans x2 | exact ((x0.alloc _).alloc _).trans x2); clear x2; (try clear xc xf xs); obtain ⟨xc, xf, xs⟩ := x0.cells))
    generalize hV : World.alloc _ _ = V2
    have hX : Ext V V2 := by rw [← hV]; exact x0.alloc _
    have hly : w2.heap.size < V2.heap.size := by rw [← hV]; simp
    have y0 : V2.cell? ⟨w2.heap.size, 0, none⟩ = some (.int .i64 x) := by rw [← hV]; simp [go_sem]
    have y1 : V2.cell? ⟨w2.heap.size, 1, none⟩ = some (.int .i64 (sgK v0 v1 v2 v3 v4 q x 0)) := by rw [← hV]; simp [go_sem]
    replace f0 := (hX.cells.1 _ _ hl0).trans f0
    replace f1 := (hX.cells.1 _ _ hl0).trans f1
    replace f2 := (hX.cells.1 _ _ hl0).trans f2
    replace f3 := (hX.cells.1 _ _ hl0).trans f3
    replace f4 := (hX.cells.1 _ _ hl0).trans f4
    replace hl0 := Nat.lt_of_lt_of_le hl0 hX.size
    replace hE := hE.trans hX
    clear hV hX x0 xc xf xs
    generalize w2.heap.size = gY at *
    have x0 := Ext.refl V2
    go_upto_region 13 with (first | (go_at_call 28; refine (implStopAfter_any v0 v1 v2 v3 v4 q x 0 _).mono ?_; rintro e w2 ⟨rfl, x2⟩; rw [hso]; replace x0 := (by first | exact x0.trans x2 | exact (x0.alloc _).trans x2 | exact ((x0.alloc _).alloc _).trans x2); clear x2; (try clear xc xf xs); obtain ⟨xc, xf, xs⟩ := x0.cells))
    have hww := hE.trans x0
    have hxx := x0
    have p4 := (xc _ _ hl0).trans f4
    have plE := Nat.lt_of_lt_of_le hl0 xs
    clear x0 xc xf xs
    have qa : IntKind.i64.wrap (x + 1) = x + 1 := IntWalk.i64_in _ (by omega)
    have qb : IntKind.i64.wrap (v4 - x) = v4 - x := IntWalk.i64_in _ (by omega)
    have qc : IntKind.i64.wrap (v4 - x + 1) = v4 - x + 1 := IntWalk.i64_in _ (by omega)
    have x0 := Ext.refl w2
    go_region_held3 (fun w' => w'.cell? ⟨gE, 4, none⟩ = some (.int .i64 v4))
      (first | with_reducible assumption | (refine keep_ext (W := w2) ?_ (by assumption) (by assumption); exact x0) | go_keep)
      (first | (go_at_call 30; refine (f6roll_any a n cp 1103 _ (hB.to (by first | exact hww | exact hww.drew | exact hww.drewN _) (by have := hww.size; simp; omega)) (by omega)).mono ?_; rintro e w9 ⟨rfl, hS9, x9⟩; have hB9 := hB.to (g' := w2.heap.size) ((by first | exact hww | exact hww.drew | exact hww.drewN _ : Ext w _).trans x9) hww.size; have x0 : Ext w2 w9 := (by first | exact x0.trans x9 | exact x0.drew.trans x9 | exact (x0.drewN _).trans x9)) | (go_at_call 31; refine (below_any w2.heap.size n cp 0 (v4 - x + 1) a _ hS9 hB9 (by omega) (by omega) (by omega)).mono ?_; rintro e w9 ⟨d, rfl, hd, hS8, hW9⟩; replace x0 := Wrote.ext x0 hW9 (fun k hk => by injection hk; omega); have qd : IntKind.i64.wrap (x + 1 + d) = x + 1 + d := IntWalk.i64_in _ (by omega)))
    have wf := fun o => (x0.cells.1 gE o plE).trans (hxx.cells.1 gE o hl0)
    have wy := fun o => (x0.cells.1 gY o (Nat.lt_of_lt_of_le hly hxx.size)).trans (hxx.cells.1 gY o hly)
    replace f0 := (wf _).trans f0
    replace f1 := (wf _).trans f1
    replace f2 := (wf _).trans f2
    replace f3 := (wf _).trans f3
    replace f4 := (wf _).trans f4
    replace y0 := (wy _).trans y0
    have hE := hE.trans (hxx.trans x0)
    have hlE := Nat.lt_of_lt_of_le plE x0.size
    have hlY := Nat.lt_of_lt_of_le (Nat.lt_of_lt_of_le hly hxx.size) x0.size
    obtain ⟨y, hy⟩ : ∃ y, y = x + 1 + d := ⟨_, rfl⟩
    have hab := hab.out y (by omega) (by omega)
    rw [← hy]
    clear wf wy hxx hww x0 hS9 hB9 hS8 hW9 x9 qa qb qc qd p4 hl0 hly plE hd hy g1 g2 g3 hso hr hc hB
    have x0 := Ext.refl w9
    generalize hC : sgC v0 v1 v2 v3 v4 q y 0 = C at hab
    generalize hT : sgT v0 v1 v2 v3 v4 q y 0 = T at hab
    generalize hG : sgE v0 v1 v2 v3 v4 q y 0 = G at hab
    by_cases c4 : C = 0
    · subst c4
      cases T
      · have := hm
        go_upto_region 15 with (first | (go_at_call 29; refine (implSwing_any v0 v1 v2 v3 v4 q y 0 _).mono ?_; rintro e w2 ⟨rfl, x2⟩; rw [hC, hT, hG]; replace x0 := (by first | exact x0.trans x2 | exact (x0.alloc _).trans x2 | exact ((x0.alloc _).alloc _).trans x2); clear x2; (try clear xc xf xs); obtain ⟨xc, xf, xs⟩ := x0.cells))
        generalize hV : World.alloc _ _ = V3
        have hX : Ext w9 V3 := by rw [← hV]; exact x0.alloc _
        have hlz : w2.heap.size < V3.heap.size := by rw [← hV]; simp
        have z0 : V3.cell? ⟨w2.heap.size, 0, none⟩ = some (.int .i64 G) := by rw [← hV]; simp [go_sem]
        have z1 : V3.cell? ⟨w2.heap.size, 1, none⟩ = some (.int .i64 (sgK v0 v1 v2 v3 v4 q y 0)) := by rw [← hV]; simp [go_sem]
        replace y0 := (hX.cells.1 _ _ hlY).trans y0
        replace hlY := Nat.lt_of_lt_of_le hlY hX.size
        replace hE := hE.trans hX
        clear hV hX x0 xc xf xs
        generalize w2.heap.size = gZ at *
        have x0 := Ext.refl V3
        go_wp2_with fail
        go_ret
        exact ⟨rfl, hE⟩
      · have c5 : G < y := by simpa using hab
        go_upto_region 15 with (first | (go_at_call 29; refine (implSwing_any v0 v1 v2 v3 v4 q y 0 _).mono ?_; rintro e w2 ⟨rfl, x2⟩; rw [hC, hT, hG]; replace x0 := (by first | exact x0.trans x2 | exact (x0.alloc _).trans x2 | exact ((x0.alloc _).alloc _).trans x2); clear x2; (try clear xc xf xs); obtain ⟨xc, xf, xs⟩ := x0.cells))
        generalize hV : World.alloc _ _ = V3
        have hX : Ext w9 V3 := by rw [← hV]; exact x0.alloc _
        have hlz : w2.heap.size < V3.heap.size := by rw [← hV]; simp
        have z0 : V3.cell? ⟨w2.heap.size, 0, none⟩ = some (.int .i64 G) := by rw [← hV]; simp [go_sem]
        have z1 : V3.cell? ⟨w2.heap.size, 1, none⟩ = some (.int .i64 (sgK v0 v1 v2 v3 v4 q y 0)) := by rw [← hV]; simp [go_sem]
        replace y0 := (hX.cells.1 _ _ hlY).trans y0
        replace hlY := Nat.lt_of_lt_of_le hlY hX.size
        replace hE := hE.trans hX
        clear hV hX x0 xc xf xs
        generalize w2.heap.size = gZ at *
        have x0 := Ext.refl V3
        go_wp2_with fail
        go_ret
        exact ⟨rfl, hE⟩
    · have c5 : (C != 0) = true := by simpa using c4
      go_upto_region 15 with (first | (go_at_call 29; refine (implSwing_any v0 v1 v2 v3 v4 q y 0 _).mono ?_; rintro e w2 ⟨rfl, x2⟩; rw [hC, hT, hG]; replace x0 := (by first | exact x0.trans x2 | exact (x0.alloc _).trans x2 | exact ((x0.alloc _).alloc _).trans x2); clear x2; (try clear xc xf xs); obtain ⟨xc, xf, xs⟩ := x0.cells))
      generalize hV : World.alloc _ _ = V3
      have hX : Ext w9 V3 := by rw [← hV]; exact x0.alloc _
      have hlz : w2.heap.size < V3.heap.size := by rw [← hV]; simp
      have z0 : V3.cell? ⟨w2.heap.size, 0, none⟩ = some (.int .i64 G) := by rw [← hV]; simp [go_sem]
      have z1 : V3.cell? ⟨w2.heap.size, 1, none⟩ = some (.int .i64 (sgK v0 v1 v2 v3 v4 q y 0)) := by rw [← hV]; simp [go_sem]
      replace y0 := (hX.cells.1 _ _ hlY).trans y0
      replace hlY := Nat.lt_of_lt_of_le hlY hX.size
      replace hE := hE.trans hX
      clear hV hX x0 xc xf xs
      generalize w2.heap.size = gZ at *
      have x0 := Ext.refl V3
      go_wp2_with fail
      go_ret
      exact ⟨rfl, hE⟩
end Go.Proofs.Ytehebhphlaghfaa
