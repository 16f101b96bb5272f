/-
  The law of valid springs: its walk.
-/
import Derived.Test.YtgkpganbepbjnaaSpring3
import Derived.Deep.DeepCutAuto
namespace Go.Proofs.Ytgkpganbepbjnaa
open Go.RowKit
set_option linter.unusedSimpArgs false
set_option linter.unusedVariables false

set_option maxHeartbeats 4000000 in
theorem validSpring_walk (a : Option Addr) (n cp : Nat) (zs : List (Int × Int)) (w : World) (hr : RowAt w a zs) (hn : zs.length = n) (hm : n ≤ 9223372036854775807) :
    Calls Try.prog 5 #[.agg #[.slice a n cp]] w fun e w' => e = .returned (.bool true) ∧ Ext w w' := by
  by_cases hs : n ≤ 1048576
  · have z := Lib.hid (show szOf n = 1048576 - (n : Int) by simp [szOf, hs])
    have t0 : ¬ (1048576 - (n : Int)) < 0 := by omega
    go_enter Try.func5, Try.ntmps5
    go_wp2_with fail
    generalize hW : World.alloc _ _ = W
    have hE : Ext w W := by rw [← hW]; exact (Ext.refl _).alloc _
    have hl0 : w.heap.size < W.heap.size := by rw [← hW]; simp
    have f0 : W.cell? ⟨w.heap.size, 0, none⟩ = some (.slice a n cp) := by rw [← hW]; simp [go_sem]
    clear hW
    have hrW := hr.ext hE
    have x0 := Ext.refl W
    go_wp2_with (first | (go_at_call 19; refine (szSpring_any _ _ _ _ hm).mono ?_; rintro e w1 ⟨rfl, x1⟩; rw [z.out]; replace x0 := x0.trans x1; (try clear xc xf xs); obtain ⟨xc, xf, xs⟩ := x0.cells) | (go_at_call 21; refine (toSpring_any _ _ _ zs _ (hrW.ext x0) hn hs).mono ?_; rintro e w1 ⟨g, rfl, hf, hge, x1⟩; have hg := hf.row hn.symm; replace x0 := x0.trans x1; (try clear xc xf xs); obtain ⟨xc, xf, xs⟩ := x0.cells) | (go_at_call 20; refine (specValidSpring_any _ _ _ zs _ hg hn hs).mono ?_; rintro e w1 ⟨rfl, x1⟩; replace x0 := x0.trans x1; (try clear xc xf xs); obtain ⟨xc, xf, xs⟩ := x0.cells))
    rename World => U
    generalize hV : World.alloc _ _ = V
    have xU : Ext U V := by rw [← hV]; exact (Ext.refl _).alloc _
    have xV := x0.trans xU
    have hlV : U.heap.size < V.heap.size := by rw [← hV]; simp
    have d0 : V.cell? ⟨U.heap.size, 0, none⟩ = some (.slice (some ⟨g, 0, none⟩) n n) := by rw [← hV]; simp [go_sem]
    have e0 := (xV.cells.1 _ _ hl0).trans f0
    have hlw := Nat.lt_of_lt_of_le hl0 xV.size
    have hp := hg.ext xU
    have hr2 := hrW.ext xV
    replace hE := hE.trans xV
    clear hV xc xf xs x0 xU xV f0 hl0 hrW hg
    refine (implValidSpring_any _ _ _ zs _ hp hn hs).mono ?_
    rintro e w2 ⟨rfl, x1⟩
    replace d0 := (x1.cells.1 _ _ hlV).trans d0
    replace e0 := (x1.cells.1 _ _ hlw).trans e0
    have hl5 : U.heap.size < w2.heap.size := Nat.lt_of_lt_of_le hlV x1.size
    have hl6 : w.heap.size < w2.heap.size := Nat.lt_of_lt_of_le hlw x1.size
    replace hp := hp.ext x1
    replace hr2 := hr2.ext x1
    replace hE := hE.trans x1
    clear x1
    have x0 := Ext.refl w2
    go_upto_region 10 with fail
    go_cut [26] (fun s26 wx => s26 = .bool false ∧ Ext w2 wx)
    case first =>
      go_region_with (first | (go_at_call 21; refine (toSpring_any _ _ _ zs _ (hr2.ext (by first | exact x0 | exact x0.drew | exact x0.drewN _ | exact x0.drew.drew)) hn hs).mono ?_; rintro e w1 ⟨g2, rfl, hf, hge, x1⟩; have hg2 := hf.row hn.symm; (first | replace x0 := x0.trans x1 | replace x0 := (x0.alloc _).trans x1 | replace x0 := (x0.drew).trans x1 | replace x0 := (x0.drew.alloc _).trans x1 | replace x0 := (x0.alloc _).drew.trans x1 | replace x0 := ((x0.alloc _).alloc _).trans x1 | have x0 := x1); clear x1; obtain ⟨xc, xf, xs⟩ := x0.cells) | (go_at_call 23; refine (eqSpring_any _ _ _ _ _ zs _ (hp.ext (by first | exact x0 | exact x0.drew | exact x0.drewN _ | exact x0.drew.drew)) (by first | exact hg2 | exact hg2.ext ((Ext.refl _).drew) | exact hg2.ext ((Ext.refl _).drewN _)) hn hs).mono ?_; rintro e w1 ⟨rfl, x1⟩; (try clear xc xf xs); (first | replace x0 := x0.trans x1 | replace x0 := (x0.alloc _).trans x1 | replace x0 := (x0.drew).trans x1 | replace x0 := (x0.drew.alloc _).trans x1 | replace x0 := (x0.alloc _).drew.trans x1 | replace x0 := ((x0.alloc _).alloc _).trans x1 | have x0 := x1); clear x1; obtain ⟨xc, xf, xs⟩ := x0.cells))
      all_goals (go_wp2_with fail; go_meet; exact ⟨rfl, (by first | exact x0 | exact x0.drew | exact x0.drewN _ | exact x0.drew.drew)⟩)
    case rest =>
    obtain ⟨rfl, x0⟩ := hcut
    go_wp2_with fail
    go_ret
    exact ⟨rfl, hE.trans x0⟩
  · have z := Lib.hid (show szOf n = -1 by simp [szOf, hs])
    go_enter Try.func5, Try.ntmps5
    go_wp2_with (go_at_call 19; refine (szSpring_any _ _ _ _ hm).mono ?_; rintro e w1 ⟨rfl, x1⟩; rw [z.out])
    go_ret
    exact ⟨rfl, ((Ext.refl _).alloc _).trans x1⟩
end Go.Proofs.Ytgkpganbepbjnaa
