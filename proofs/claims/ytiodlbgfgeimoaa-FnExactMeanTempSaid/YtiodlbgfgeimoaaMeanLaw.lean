/-
  The law of the mean temperature: its walk.
-/
import Derived.Deep.DeepCutAuto
import Derived.Test.YtiodlbgfgeimoaaMean
namespace Go.Proofs.Ytiodlbgfgeimoaa
open Go.RowKit
set_option linter.unusedSimpArgs false
set_option linter.unusedVariables false


set_option maxHeartbeats 4000000 in
theorem meanTemp_walk (a : Option Addr) (n cp : Nat) (zs : List (Int × Int)) (w : World) (hr : RowAt w a zs) (hn : zs.length = n) (hm : n ≤ 9223372036854775807) :
    Calls Try.prog 11 #[.slice a n cp] w fun e w' => e = .returned (.bool true) ∧ Ext w w' := by
  by_cases hs : n ≤ 1048576
  · have z := Lib.hid (show szOf n = 1048576 - (n : Int) by simp [szOf, hs])
    have t0 : ¬ (1048576 - (n : Int)) < 0 := by omega
    go_enter Try.func11, Try.ntmps11
    have hrW := hr
    have x0 := Ext.refl w
    go_upto_region 5 with (go_at_call 25; refine (szSegmentS_any _ _ _ _ hm).mono ?_; rintro e w1 ⟨rfl, rfl⟩; rw [z.out])
    go_cut [4, 5] (fun s4 s5 wx => ∃ g : Nat, s4 = .pointer (some ⟨g, 0, none⟩) ∧ s5 = .int .i64 (mtC zs) ∧ Ext w wx ∧ wx.cell? ⟨g, 0, none⟩ = some (.int .i64 (mtN zs)) ∧ wx.cell? ⟨g, 1, none⟩ = some (.int .i64 (mtD zs)))
    case first =>
      go_wp2_with (first | (go_at_call 27; refine (toSegmentS_any _ _ _ zs _ (hrW.ext x0) hn hs).mono ?_; rintro e w1 ⟨rfl, hf, x1⟩; have hg := hf.row hn.symm; (try clear xc xf xs); (first | replace x0 := x0.trans x1 | replace x0 := (x0.alloc _).trans x1 | replace x0 := (x0.drew).trans x1 | replace x0 := (x0.drew.alloc _).trans x1 | replace x0 := (x0.alloc _).drew.trans x1 | replace x0 := ((x0.alloc _).alloc _).trans x1 | have x0 := x1); clear x1; obtain ⟨xc, xf, xs⟩ := x0.cells) | (go_at_call 41; refine (specMeanTemp_any _ _ _ zs _ hg hn hs).mono ?_; rintro e w1 ⟨rfl, x1⟩; have hg := hg.ext x1; (try clear xc xf xs); (first | replace x0 := x0.trans x1 | replace x0 := (x0.alloc _).trans x1 | replace x0 := (x0.drew).trans x1 | replace x0 := (x0.drew.alloc _).trans x1 | replace x0 := (x0.alloc _).drew.trans x1 | replace x0 := ((x0.alloc _).alloc _).trans x1 | have x0 := x1); clear x1; obtain ⟨xc, xf, xs⟩ := x0.cells))
      all_goals (go_wp2_with fail; go_meet; refine ⟨_, rfl, rfl, ?_, ?_, ?_⟩)
      all_goals first | (simp [go_sem, *]; done) | (refine two0 _ _ _ _ ?_; simp [*]; done) | (refine two1 _ _ _ _ ?_; simp [*]; done) | (repeat (first | exact x0 | refine Ext.setCell ?_ (by simp; try omega) _ | refine Ext.alloc ?_ _ | refine Ext.drew ?_ | refine Ext.trans ?_ (by assumption)))
    case rest =>
    obtain ⟨g, rfl, rfl, x0, f0, f1⟩ := hcut
    have hE := x0
    have hrW := hr.ext x0
    clear x0
    rename World => W
    have hl_g : g < W.heap.size := World.block_lt_of_cell? _ _ f0
    have x0 := Ext.refl W
    go_upto_region 7 with (go_at_call 27; refine (toSegmentS_any _ _ _ zs _ (hrW.ext x0) hn hs).mono ?_; rintro e w1 ⟨rfl, hf, x1⟩; have hg := hf.row hn.symm; (try clear xc xf xs); (first | replace x0 := x0.trans x1 | replace x0 := (x0.alloc _).trans x1 | replace x0 := (x0.drew).trans x1 | replace x0 := (x0.drew.alloc _).trans x1 | replace x0 := (x0.alloc _).drew.trans x1 | replace x0 := ((x0.alloc _).alloc _).trans x1 | have x0 := x1); clear x1; obtain ⟨xc, xf, xs⟩ := x0.cells)
    have hp := hg
    replace hE := hE.trans x0
    have hrW := hrW.ext x0
    have f0 := (xc _ _ hl_g).trans f0
    have f1 := (xc _ _ hl_g).trans f1
    have hl_g := Nat.lt_of_lt_of_le hl_g x0.size
    clear xc xf xs x0 hg hf
    rename World => V
    have x0 := Ext.refl V
    go_cut [7, 8] (fun s7 s8 wx => ∃ gg : Nat, s7 = .pointer (some ⟨gg, 0, none⟩) ∧ s8 = .int .i64 (mtC zs) ∧ Ext V wx ∧ wx.cell? ⟨gg, 0, none⟩ = some (.int .i64 (mtN zs)) ∧ wx.cell? ⟨gg, 1, none⟩ = some (.int .i64 (mtD zs)))
    case first =>
      go_wp2_with (go_at_call 42; refine (implMeanTemp_any _ _ _ zs _ hp hn hs).mono ?_; rintro e w1 ⟨rfl, x1⟩; (try clear xc xf xs); (first | replace x0 := x0.trans x1 | replace x0 := (x0.alloc _).trans x1 | replace x0 := (x0.drew).trans x1 | replace x0 := (x0.drew.alloc _).trans x1 | replace x0 := (x0.alloc _).drew.trans x1 | replace x0 := ((x0.alloc _).alloc _).trans x1 | have x0 := x1); clear x1; obtain ⟨xc, xf, xs⟩ := x0.cells)
      all_goals (go_wp2_with fail; go_meet; refine ⟨_, rfl, rfl, ?_, ?_, ?_⟩)
      all_goals first | (simp [go_sem, *]; done) | (refine two0 _ _ _ _ ?_; simp [*]; done) | (refine two1 _ _ _ _ ?_; simp [*]; done) | (repeat (first | exact x0 | refine Ext.setCell ?_ (by simp; try omega) _ | refine Ext.alloc ?_ _ | refine Ext.drew ?_ | refine Ext.trans ?_ (by assumption)))
    case rest =>
    obtain ⟨gg, rfl, rfl, x0, e0, e1⟩ := hcut
    obtain ⟨xc, xf, xs⟩ := x0.cells
    have f0 := (xc _ _ hl_g).trans f0
    have f1 := (xc _ _ hl_g).trans f1
    replace hE := hE.trans x0
    have hrW := hrW.ext x0
    have hp := hp.ext x0
    clear xc xf xs x0
    rename World => U
    have x0 := Ext.refl U
    go_wp2_with (first | (go_at_call 32; refine (eqRatio_same _ _ _).mono ?_; rintro e w1 ⟨rfl, x1⟩; (try clear xc xf xs); (first | replace x0 := x0.trans x1 | replace x0 := (x0.alloc _).trans x1 | replace x0 := (x0.drew).trans x1 | replace x0 := (x0.drew.alloc _).trans x1 | replace x0 := (x0.alloc _).drew.trans x1 | replace x0 := ((x0.alloc _).alloc _).trans x1 | have x0 := x1); clear x1; obtain ⟨xc, xf, xs⟩ := x0.cells) | (go_at_call 27; refine (toSegmentS_any _ _ _ zs _ (hrW.ext x0) hn hs).mono ?_; rintro e w1 ⟨rfl, hf, x1⟩; have hg := hf.row hn.symm; (try clear xc xf xs); (first | replace x0 := x0.trans x1 | replace x0 := (x0.alloc _).trans x1 | replace x0 := (x0.drew).trans x1 | replace x0 := (x0.drew.alloc _).trans x1 | replace x0 := (x0.alloc _).drew.trans x1 | replace x0 := ((x0.alloc _).alloc _).trans x1 | have x0 := x1); clear x1; obtain ⟨xc, xf, xs⟩ := x0.cells) | (go_at_call 29; refine (eqSegmentS_any _ _ _ _ _ zs _ (hp.ext x0) hg hn hs).mono ?_; rintro e w1 ⟨rfl, x1⟩; (try clear xc xf xs); (first | replace x0 := x0.trans x1 | replace x0 := (x0.alloc _).trans x1 | replace x0 := (x0.drew).trans x1 | replace x0 := (x0.drew.alloc _).trans x1 | replace x0 := (x0.alloc _).drew.trans x1 | replace x0 := ((x0.alloc _).alloc _).trans x1 | have x0 := x1); clear x1; obtain ⟨xc, xf, xs⟩ := x0.cells))
    go_ret
    exact ⟨rfl, hE.trans x0⟩
  · have z := Lib.hid (show szOf n = -1 by simp [szOf, hs])
    go_enter Try.func11, Try.ntmps11
    go_wp2_with (go_at_call 25; refine (szSegmentS_any _ _ _ _ hm).mono ?_; rintro e w1 ⟨rfl, rfl⟩; rw [z.out])
    go_ret
    exact ⟨rfl, Ext.refl _⟩
end Go.Proofs.Ytiodlbgfgeimoaa
