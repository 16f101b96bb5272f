/-
  The walks of the laws over a spring.
-/
import Derived.Test.YtgkpganbepbjnaaSpr3
import Derived.Test.YtgkpganbepbjnaaSpring3
import Derived.Deep.DeepCutAuto
namespace Go.Proofs.Ytgkpganbepbjnaa
open Go.RowKit
set_option linter.unusedSimpArgs false
set_option linter.unusedVariables false

set_option maxRecDepth 100000 in
set_option maxHeartbeats 8000000 in
theorem runningTime_walk (a : Option Addr) (n cp : Nat) (zs : List (Int × Int)) (f : Int) (q : Int) (w : World) (hr : RowAt w a zs) (hn : zs.length = n) (hm : n ≤ 9223372036854775807) :
    Calls Try.prog 11 #[.agg #[.slice a n cp], .int .i64 f, .int .i64 q] w fun e w' => e = .returned (.bool true) ∧ Ext w w' := by
  by_cases hs : n ≤ 1048576
  · have z := Lib.hid (show szOf n = 1048576 - (n : Int) by simp [szOf, hs])
    have t0 : ¬ (1048576 - (n : Int)) < 0 := by omega
    go_enter Try.func11, Try.ntmps11
    go_wp2_with fail
    generalize hW : World.alloc _ _ = W
    have hE : Ext w W := by rw [← hW]; exact (Ext.refl _).alloc _
    have hl0 : w.heap.size < W.heap.size := by rw [← hW]; simp
    have f0 : W.cell? ⟨w.heap.size, 0, none⟩ = some (.slice a n cp) := by rw [← hW]; simp [go_sem]
    clear hW
    have hrW := hr.ext hE
    have x0 := Ext.refl W
    go_upto_region 6 with (first | (go_at_call 19; refine (szSpring_any _ _ _ _ hm).mono ?_; rintro e w1 ⟨rfl, x1⟩; rw [z.out]; (try clear xc xf xs); (first | replace x0 := x0.trans x1 | replace x0 := (x0.alloc _).trans x1 | replace x0 := (x0.drew).trans x1 | replace x0 := (x0.drew.alloc _).trans x1 | replace x0 := (x0.alloc _).drew.trans x1 | replace x0 := ((x0.alloc _).alloc _).trans x1 | have x0 := x1); clear x1; obtain ⟨xc, xf, xs⟩ := x0.cells) | (go_at_call 21; refine (toSpring_any _ _ _ zs _ (hrW.ext x0) hn hs).mono ?_; rintro e w1 ⟨g, rfl, hf, hge, x1⟩; have hg := hf.row hn.symm; (try clear xc xf xs); (first | replace x0 := x0.trans x1 | replace x0 := (x0.alloc _).trans x1 | replace x0 := (x0.drew).trans x1 | replace x0 := (x0.drew.alloc _).trans x1 | replace x0 := (x0.alloc _).drew.trans x1 | replace x0 := ((x0.alloc _).alloc _).trans x1 | have x0 := x1); clear x1; obtain ⟨xc, xf, xs⟩ := x0.cells) | (go_at_call 41; refine (specRunningTime_any _ _ _ zs f q _ hg hn hs).mono ?_; rintro e w1 ⟨rfl, x1⟩; (try clear xc xf xs); (first | replace x0 := x0.trans x1 | replace x0 := (x0.alloc _).trans x1 | replace x0 := (x0.drew).trans x1 | replace x0 := (x0.drew.alloc _).trans x1 | replace x0 := (x0.alloc _).drew.trans x1 | replace x0 := ((x0.alloc _).alloc _).trans x1 | have x0 := x1); clear x1; obtain ⟨xc, xf, xs⟩ := x0.cells))
    replace f0 := (x0.cells.1 _ _ hl0).trans f0
    replace hl0 := Nat.lt_of_lt_of_le hl0 x0.size
    replace hrW := hrW.ext x0
    replace hE := hE.trans x0
    clear xc xf xs x0 hf hge hg
    rename World => W
    have x0 := Ext.refl W
    go_upto_region 7 with (go_at_call 21; refine (toSpring_any _ _ _ zs _ (hrW.ext x0) hn hs).mono ?_; rintro e w1 ⟨g, rfl, hf, hge, x1⟩; have hg := hf.row hn.symm; (try clear xc xf xs); (first | replace x0 := x0.trans x1 | replace x0 := (x0.alloc _).trans x1 | replace x0 := (x0.drew).trans x1 | replace x0 := (x0.drew.alloc _).trans x1 | replace x0 := (x0.alloc _).drew.trans x1 | replace x0 := ((x0.alloc _).alloc _).trans x1 | have x0 := x1); clear x1; obtain ⟨xc, xf, xs⟩ := x0.cells)
    rename World => U
    generalize hV : World.alloc _ _ = V
    have xU : Ext U V := by rw [← hV]; exact (Ext.refl _).alloc _
    have xV := x0.trans xU
    have hlV : U.heap.size < V.heap.size := by rw [← hV]; simp
    have d0 : V.cell? ⟨U.heap.size, 0, none⟩ = some (.slice (some ⟨g, 0, none⟩) n n) := by rw [← hV]; simp [go_sem]
    replace f0 := (xV.cells.1 _ _ hl0).trans f0
    replace hl0 := Nat.lt_of_lt_of_le hl0 xV.size
    have hp := hg.ext xU
    replace hrW := hrW.ext xV
    replace hE := hE.trans xV
    clear hV xc xf xs x0 xU xV hf hge hg
    generalize U.heap.size = gb at *
    have x0 := Ext.refl V
    go_upto_region 10 with (go_at_call 42; refine (implRunningTime_any _ _ _ zs f q _ hp hn hs).mono ?_; rintro e w1 ⟨rfl, x1⟩; (try clear xc xf xs); (first | replace x0 := x0.trans x1 | replace x0 := (x0.alloc _).trans x1 | replace x0 := (x0.drew).trans x1 | replace x0 := (x0.drew.alloc _).trans x1 | replace x0 := (x0.alloc _).drew.trans x1 | replace x0 := ((x0.alloc _).alloc _).trans x1 | have x0 := x1); clear x1; obtain ⟨xc, xf, xs⟩ := x0.cells)
    replace d0 := (x0.cells.1 _ _ hlV).trans d0
    replace f0 := (x0.cells.1 _ _ hl0).trans f0
    replace hlV := Nat.lt_of_lt_of_le hlV x0.size
    replace hl0 := Nat.lt_of_lt_of_le hl0 x0.size
    replace hp := hp.ext x0
    replace hrW := hrW.ext x0
    replace hE := hE.trans x0
    clear xc xf xs x0
    rename World => W2
    have x0 := Ext.refl W2
    go_cut [47] (fun s26 wx => s26 = .bool false ∧ Ext W2 wx)
    case first =>
      go_region_held3 (fun w' => w'.cell? ⟨gb, 0, none⟩ = some (.slice (some ⟨g, 0, none⟩) n n) ∧ w'.cell? ⟨w.heap.size, 0, none⟩ = some (.slice a n cp))
        (refine ⟨?_, ?_⟩ <;> (refine keep_ext (W := W2) ?_ (by assumption) (by assumption) <;> (repeat (first | exact x0 | refine Ext.drew ?_))))
        (first | (go_at_call 21; refine (toSpring_any _ _ _ zs _ (hrW.ext (by first | exact x0 | exact x0.drew | exact x0.drewN _ | exact x0.drew.drew)) hn hs).mono ?_; rintro e w1 ⟨g2, rfl, hf, hge, x1⟩; have hg2 := hf.row hn.symm; (try clear xc xf xs); (first | replace x0 := x0.trans x1 | replace x0 := (x0.alloc _).trans x1 | replace x0 := (x0.drew).trans x1 | replace x0 := (x0.drew.alloc _).trans x1 | replace x0 := (x0.alloc _).drew.trans x1 | replace x0 := ((x0.alloc _).alloc _).trans x1 | have x0 := x1); clear x1; obtain ⟨xc, xf, xs⟩ := x0.cells) | (go_at_call 23; refine (eqSpring_any _ _ _ _ _ zs _ (hp.ext (by first | exact x0 | exact x0.drew | exact x0.drewN _ | exact x0.drew.drew)) (by first | exact hg2 | exact hg2.ext ((Ext.refl _).drew) | exact hg2.ext ((Ext.refl _).drewN _)) hn hs).mono ?_; rintro e w1 ⟨rfl, x1⟩; (try clear xc xf xs); (first | replace x0 := x0.trans x1 | replace x0 := (x0.alloc _).trans x1 | replace x0 := (x0.drew).trans x1 | replace x0 := (x0.drew.alloc _).trans x1 | replace x0 := (x0.alloc _).drew.trans x1 | replace x0 := ((x0.alloc _).alloc _).trans x1 | have x0 := x1); clear x1; obtain ⟨xc, xf, xs⟩ := x0.cells))
      all_goals (go_wp2_with fail; go_meet; exact ⟨rfl, (by first | exact x0 | exact x0.drew | exact x0.drewN _ | exact x0.drew.drew)⟩)
    case rest =>
    obtain ⟨rfl, x0⟩ := hcut
    go_wp2_with fail
    go_ret
    exact ⟨rfl, hE.trans x0⟩
  · have z := Lib.hid (show szOf n = -1 by simp [szOf, hs])
    go_enter Try.func11, Try.ntmps11
    go_wp2_with (go_at_call 19; refine (szSpring_any _ _ _ _ hm).mono ?_; rintro e w1 ⟨rfl, x1⟩; rw [z.out])
    go_ret
    exact ⟨rfl, ((Ext.refl _).alloc _).trans x1⟩

set_option maxRecDepth 100000 in
set_option maxHeartbeats 8000000 in
theorem bestStopwork_walk (a : Option Addr) (n cp : Nat) (zs : List (Int × Int)) (t : Int) (w : World) (hr : RowAt w a zs) (hn : zs.length = n) (hm : n ≤ 9223372036854775807) :
    Calls Try.prog 10 #[.agg #[.slice a n cp], .int .i64 t] w fun e w' => e = .returned (.bool true) ∧ Ext w w' := by
  by_cases hs : n ≤ 1048576
  · have z := Lib.hid (show szOf n = 1048576 - (n : Int) by simp [szOf, hs])
    have t0 : ¬ (1048576 - (n : Int)) < 0 := by omega
    go_enter Try.func10, Try.ntmps10
    go_wp2_with fail
    generalize hW : World.alloc _ _ = W
    have hE : Ext w W := by rw [← hW]; exact (Ext.refl _).alloc _
    have hl0 : w.heap.size < W.heap.size := by rw [← hW]; simp
    have f0 : W.cell? ⟨w.heap.size, 0, none⟩ = some (.slice a n cp) := by rw [← hW]; simp [go_sem]
    clear hW
    have hrW := hr.ext hE
    have x0 := Ext.refl W
    go_upto_region 6 with (first | (go_at_call 19; refine (szSpring_any _ _ _ _ hm).mono ?_; rintro e w1 ⟨rfl, x1⟩; rw [z.out]; (try clear xc xf xs); (first | replace x0 := x0.trans x1 | replace x0 := (x0.alloc _).trans x1 | replace x0 := (x0.drew).trans x1 | replace x0 := (x0.drew.alloc _).trans x1 | replace x0 := (x0.alloc _).drew.trans x1 | replace x0 := ((x0.alloc _).alloc _).trans x1 | have x0 := x1); clear x1; obtain ⟨xc, xf, xs⟩ := x0.cells) | (go_at_call 21; refine (toSpring_any _ _ _ zs _ (hrW.ext x0) hn hs).mono ?_; rintro e w1 ⟨g, rfl, hf, hge, x1⟩; have hg := hf.row hn.symm; (try clear xc xf xs); (first | replace x0 := x0.trans x1 | replace x0 := (x0.alloc _).trans x1 | replace x0 := (x0.drew).trans x1 | replace x0 := (x0.drew.alloc _).trans x1 | replace x0 := (x0.alloc _).drew.trans x1 | replace x0 := ((x0.alloc _).alloc _).trans x1 | have x0 := x1); clear x1; obtain ⟨xc, xf, xs⟩ := x0.cells) | (go_at_call 39; refine (specBestStopwork_any _ _ _ zs t _ hg hn hs).mono ?_; rintro e w1 ⟨rfl, x1⟩; (try clear xc xf xs); (first | replace x0 := x0.trans x1 | replace x0 := (x0.alloc _).trans x1 | replace x0 := (x0.drew).trans x1 | replace x0 := (x0.drew.alloc _).trans x1 | replace x0 := (x0.alloc _).drew.trans x1 | replace x0 := ((x0.alloc _).alloc _).trans x1 | have x0 := x1); clear x1; obtain ⟨xc, xf, xs⟩ := x0.cells))
    replace f0 := (x0.cells.1 _ _ hl0).trans f0
    replace hl0 := Nat.lt_of_lt_of_le hl0 x0.size
    replace hrW := hrW.ext x0
    replace hE := hE.trans x0
    clear xc xf xs x0 hf hge hg
    rename World => W
    have x0 := Ext.refl W
    go_upto_region 7 with (go_at_call 21; refine (toSpring_any _ _ _ zs _ (hrW.ext x0) hn hs).mono ?_; rintro e w1 ⟨g, rfl, hf, hge, x1⟩; have hg := hf.row hn.symm; (try clear xc xf xs); (first | replace x0 := x0.trans x1 | replace x0 := (x0.alloc _).trans x1 | replace x0 := (x0.drew).trans x1 | replace x0 := (x0.drew.alloc _).trans x1 | replace x0 := (x0.alloc _).drew.trans x1 | replace x0 := ((x0.alloc _).alloc _).trans x1 | have x0 := x1); clear x1; obtain ⟨xc, xf, xs⟩ := x0.cells)
    rename World => U
    generalize hV : World.alloc _ _ = V
    have xU : Ext U V := by rw [← hV]; exact (Ext.refl _).alloc _
    have xV := x0.trans xU
    have hlV : U.heap.size < V.heap.size := by rw [← hV]; simp
    have d0 : V.cell? ⟨U.heap.size, 0, none⟩ = some (.slice (some ⟨g, 0, none⟩) n n) := by rw [← hV]; simp [go_sem]
    replace f0 := (xV.cells.1 _ _ hl0).trans f0
    replace hl0 := Nat.lt_of_lt_of_le hl0 xV.size
    have hp := hg.ext xU
    replace hrW := hrW.ext xV
    replace hE := hE.trans xV
    clear hV xc xf xs x0 xU xV hf hge hg
    generalize U.heap.size = gb at *
    have x0 := Ext.refl V
    go_upto_region 10 with (go_at_call 40; refine (implBestStopwork_any _ _ _ zs t _ hp hn hs).mono ?_; rintro e w1 ⟨rfl, x1⟩; (try clear xc xf xs); (first | replace x0 := x0.trans x1 | replace x0 := (x0.alloc _).trans x1 | replace x0 := (x0.drew).trans x1 | replace x0 := (x0.drew.alloc _).trans x1 | replace x0 := (x0.alloc _).drew.trans x1 | replace x0 := ((x0.alloc _).alloc _).trans x1 | have x0 := x1); clear x1; obtain ⟨xc, xf, xs⟩ := x0.cells)
    replace d0 := (x0.cells.1 _ _ hlV).trans d0
    replace f0 := (x0.cells.1 _ _ hl0).trans f0
    replace hlV := Nat.lt_of_lt_of_le hlV x0.size
    replace hl0 := Nat.lt_of_lt_of_le hl0 x0.size
    replace hp := hp.ext x0
    replace hrW := hrW.ext x0
    replace hE := hE.trans x0
    clear xc xf xs x0
    rename World => W2
    have x0 := Ext.refl W2
    go_cut [43] (fun s26 wx => s26 = .bool false ∧ Ext W2 wx)
    case first =>
      go_region_held3 (fun w' => w'.cell? ⟨gb, 0, none⟩ = some (.slice (some ⟨g, 0, none⟩) n n) ∧ w'.cell? ⟨w.heap.size, 0, none⟩ = some (.slice a n cp))
        (refine ⟨?_, ?_⟩ <;> (refine keep_ext (W := W2) ?_ (by assumption) (by assumption) <;> (repeat (first | exact x0 | refine Ext.drew ?_))))
        (first | (go_at_call 21; refine (toSpring_any _ _ _ zs _ (hrW.ext (by first | exact x0 | exact x0.drew | exact x0.drewN _ | exact x0.drew.drew)) hn hs).mono ?_; rintro e w1 ⟨g2, rfl, hf, hge, x1⟩; have hg2 := hf.row hn.symm; (try clear xc xf xs); (first | replace x0 := x0.trans x1 | replace x0 := (x0.alloc _).trans x1 | replace x0 := (x0.drew).trans x1 | replace x0 := (x0.drew.alloc _).trans x1 | replace x0 := (x0.alloc _).drew.trans x1 | replace x0 := ((x0.alloc _).alloc _).trans x1 | have x0 := x1); clear x1; obtain ⟨xc, xf, xs⟩ := x0.cells) | (go_at_call 23; refine (eqSpring_any _ _ _ _ _ zs _ (hp.ext (by first | exact x0 | exact x0.drew | exact x0.drewN _ | exact x0.drew.drew)) (by first | exact hg2 | exact hg2.ext ((Ext.refl _).drew) | exact hg2.ext ((Ext.refl _).drewN _)) hn hs).mono ?_; rintro e w1 ⟨rfl, x1⟩; (try clear xc xf xs); (first | replace x0 := x0.trans x1 | replace x0 := (x0.alloc _).trans x1 | replace x0 := (x0.drew).trans x1 | replace x0 := (x0.drew.alloc _).trans x1 | replace x0 := (x0.alloc _).drew.trans x1 | replace x0 := ((x0.alloc _).alloc _).trans x1 | have x0 := x1); clear x1; obtain ⟨xc, xf, xs⟩ := x0.cells))
      all_goals (go_wp2_with fail; go_meet; exact ⟨rfl, (by first | exact x0 | exact x0.drew | exact x0.drewN _ | exact x0.drew.drew)⟩)
    case rest =>
    obtain ⟨rfl, x0⟩ := hcut
    go_wp2_with fail
    go_ret
    exact ⟨rfl, hE.trans x0⟩
  · have z := Lib.hid (show szOf n = -1 by simp [szOf, hs])
    go_enter Try.func10, Try.ntmps10
    go_wp2_with (go_at_call 19; refine (szSpring_any _ _ _ _ hm).mono ?_; rintro e w1 ⟨rfl, x1⟩; rw [z.out])
    go_ret
    exact ⟨rfl, ((Ext.refl _).alloc _).trans x1⟩

end Go.Proofs.Ytgkpganbepbjnaa
