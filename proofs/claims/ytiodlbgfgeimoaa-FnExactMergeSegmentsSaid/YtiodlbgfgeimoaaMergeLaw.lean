/-
  The walk of the law of segments put together.
-/
import Derived.Test.YtiodlbgfgeimoaaMerge
import Derived.Test.YtiodlbgfgeimoaaMark2
import Derived.Deep.DeepCutAuto
namespace Go.Proofs.Ytiodlbgfgeimoaa
open Go.RowKit
set_option linter.unusedSimpArgs false
set_option linter.unusedVariables false

theorem Fill.zero {w : World} {B n i : Nat} {zs : List (Int × Int)} (h : Fill w B n i zs) : Fill w B n 0 zs := ⟨h.lt, h.there, h.free, fun j hj => by omega⟩

theorem apart2 {w w' : World} {B B' : Nat} {v v' : Value} {zs zs' : List (Int × Int)} (h : PairsOf w B v zs) (h' : PairsOf w' B' v' zs') (hb : w.heap.size ≤ B') : v.ownBlock = none ∨ v.ownBlock ≠ v'.ownBlock := by
  cases hv : v.ownBlock with
  | none => exact .inl rfl
  | some k =>
    right
    intro e
    have h1 := (h.lt k hv).2
    have h2 := (h'.lt k e.symm).1
    omega
theorem off_row2 {w : World} {B b : Nat} {v : Value} {zs : List (Int × Int)} (h : PairsOf w B v zs) (hb : w.heap.size ≤ b) : some b ≠ v.ownBlock := by
  intro e
  have := (h.lt b e.symm).2
  omega

set_option maxRecDepth 100000 in
set_option maxHeartbeats 16000000 in
theorem mergeSegments_walk (a : Option Addr) (n cp : Nat) (zs : List (Int × Int)) (w : World) (hr : RowAt w a zs) (hn : zs.length = n) (hm : n ≤ 9223372036854775807) :
    Calls Try.prog 8 #[.slice a n cp] w fun e w' => e = .returned (.bool true) ∧ Ext w w' := by
  by_cases hs : n ≤ 1048576
  · have z := Lib.hid (show szOf n = 1048576 - (n : Int) by simp [szOf, hs])
    have t0 : ¬ (1048576 - (n : Int)) < 0 := by omega
    go_enter Try.func8, Try.ntmps8
    have hE : Ext w w := Ext.refl _
    have x0 := Ext.refl w
    have hrW := hr.ext hE
    go_upto_region 6 with (first | (go_at_call 25; refine (szSegmentS_any _ _ _ _ hm).mono ?_; rintro e w1 ⟨rfl, rfl⟩; rw [z.out]) | (go_at_call 27; refine (toSegmentS_any _ _ _ zs _ (hrW.ext x0) hn hs).mono ?_; rintro e w1 ⟨rfl, hf, x1⟩; have hg0 := hf.row hn.symm; (try clear xc xf xs); (first | replace x0 := x0.trans x1 | replace x0 := (x0.alloc _).trans x1 | replace x0 := (x0.drew).trans x1 | replace x0 := (x0.drew.alloc _).trans x1 | replace x0 := (x0.alloc _).drew.trans x1 | replace x0 := ((x0.alloc _).alloc _).trans x1 | have x0 := x1); clear x1; obtain ⟨xc, xf, xs⟩ := x0.cells) | (go_at_call 33; refine (specMergeSegments_any _ _ _ zs _ hg0 hn hs).mono ?_; rintro e w1 ⟨vw, rfl, hw, x1⟩; have hsz := x0.size; (try clear xc xf xs); (first | replace x0 := x0.trans x1 | replace x0 := (x0.alloc _).trans x1 | replace x0 := (x0.drew).trans x1 | replace x0 := (x0.drew.alloc _).trans x1 | replace x0 := (x0.alloc _).drew.trans x1 | replace x0 := ((x0.alloc _).alloc _).trans x1 | have x0 := x1); clear x1; obtain ⟨xc, xf, xs⟩ := x0.cells))
    replace hw := PairsOf.low hw hsz
    replace hrW := hrW.ext x0
    replace hE := hE.trans x0
    clear hg0 hf hsz
    (try clear xc xf xs)
    clear x0
    rename World => W
    have x0 := Ext.refl W
    obtain ⟨aw, cw, rfl⟩ := hw.shape
    have hL : (mgR zs).length ≤ 1048576 := by have := mgR_len zs n hn; omega
    go_upto_region 7 with (go_at_call 27; refine (toSegmentS_any _ _ _ zs _ (hrW.ext x0) hn hs).mono ?_; rintro e w1 ⟨rfl, hx, x1⟩; have hg0 := hx.row hn.symm; (try clear xc xf xs); (first | replace x0 := x0.trans x1 | replace x0 := (x0.alloc _).trans x1 | replace x0 := (x0.drew).trans x1 | replace x0 := (x0.drew.alloc _).trans x1 | replace x0 := (x0.alloc _).drew.trans x1 | replace x0 := ((x0.alloc _).alloc _).trans x1 | have x0 := x1); clear x1; obtain ⟨xc, xf, xs⟩ := x0.cells)
    have hpxw := off_row2 hw (Nat.le_refl _)
    have hgx := hE.size
    clear hg0
    replace hw := hw.ext x0
    replace hrW := hrW.ext x0
    replace hE := hE.trans x0
    generalize W.heap.size = gx at hx hpxw hgx  ⊢
    (try clear xc xf xs)
    clear x0
    rename World => W
    have x0 := Ext.refl W
    go_upto_region 8 with (first | (go_at_call 34; refine (implMergeSegments_any _ _ _ zs _ ((hx.ext x0).row hn.symm) hn hs).mono ?_; rintro e w1 ⟨vg, rfl, hg, x1⟩; have hsz := x0.size; (try clear xc xf xs); (first | replace x0 := x0.trans x1 | replace x0 := (x0.alloc _).trans x1 | replace x0 := (x0.drew).trans x1 | replace x0 := (x0.drew.alloc _).trans x1 | replace x0 := (x0.alloc _).drew.trans x1 | replace x0 := ((x0.alloc _).alloc _).trans x1 | have x0 := x1); clear x1; obtain ⟨xc, xf, xs⟩ := x0.cells))
    replace hg := PairsOf.low hg hsz
    clear hsz
    have hpgw := apart2 hw hg (Nat.le_refl _)
    have hpgx : vg.ownBlock = none ∨ vg.ownBlock ≠ some gx := .inr (fun e => by have h1 := (hg.lt gx e).1; have h2 := hx.lt; omega)
    have hgg := hE.size
    replace hw := hw.ext x0
    replace hx := hx.ext x0
    replace hrW := hrW.ext x0
    replace hE := hE.trans x0
    generalize W.heap.size = Bg at hg hgg
    (try clear xc xf xs)
    clear x0
    rename World => W
    have x0 := Ext.refl W
    obtain ⟨ag, cg, rfl⟩ := hg.shape
    go_upto_region 10 with (first | (go_at_call 29; refine (eqSegmentS_any _ _ _ _ _ (mgR zs) _ (PairsOf.row (hg.ext x0)) (PairsOf.row (hw.ext x0)) rfl hL).mono ?_; rintro e w1 ⟨rfl, x1⟩; (try clear xc xf xs); (first | replace x0 := x0.trans x1 | replace x0 := (x0.alloc _).trans x1 | replace x0 := (x0.drew).trans x1 | replace x0 := (x0.drew.alloc _).trans x1 | replace x0 := (x0.alloc _).drew.trans x1 | replace x0 := ((x0.alloc _).alloc _).trans x1 | have x0 := x1); clear x1; obtain ⟨xc, xf, xs⟩ := x0.cells))
    go_upto_region 13 with (first | (go_at_call 27; refine (toSegmentS_any _ _ _ zs _ (hrW.ext x0) hn hs).mono ?_; rintro e w1 ⟨rfl, hc, x1⟩; have hg0 := hc.row hn.symm; (try clear xc xf xs); (first | replace x0 := x0.trans x1 | replace x0 := (x0.alloc _).trans x1 | replace x0 := (x0.drew).trans x1 | replace x0 := (x0.drew.alloc _).trans x1 | replace x0 := (x0.alloc _).drew.trans x1 | replace x0 := ((x0.alloc _).alloc _).trans x1 | have x0 := x1); clear x1; obtain ⟨xc, xf, xs⟩ := x0.cells) | (go_at_call 29; refine (eqSegmentS_any _ _ _ _ _ zs _ ((hx.ext x0).row hn.symm) hg0 hn hs).mono ?_; rintro e w1 ⟨rfl, x1⟩; (try clear xc xf xs); (first | replace x0 := x0.trans x1 | replace x0 := (x0.alloc _).trans x1 | replace x0 := (x0.drew).trans x1 | replace x0 := (x0.drew.alloc _).trans x1 | replace x0 := (x0.alloc _).drew.trans x1 | replace x0 := ((x0.alloc _).alloc _).trans x1 | have x0 := x1); clear x1; obtain ⟨xc, xf, xs⟩ := x0.cells))
    (try clear hc)
    (try clear hg0)
    replace hw := hw.ext x0
    replace hg := hg.ext x0
    replace hx := hx.ext x0
    replace hrW := hrW.ext x0
    replace hE := hE.trans x0
    (try clear xc xf xs)
    clear x0
    rename World => W
    have x0 := Ext.refl W
    go_upto_region 14 with (go_at_call 35; refine (markSegmentS_any _ _ 1 zs _ hx.zero hs (by omega)).mono ?_; rintro e w1 ⟨rfl, hwr⟩)
    replace hw := hw.wrote hwr (.inr (Ne.symm hpxw))
    replace hg := hg.wrote hwr hpgx
    replace hE := hwr.ext hE (fun k hk => by injection hk with hk; omega)
    replace hrW := hr.ext hE
    clear hwr hx hpxw hpgx x0 
    rename World => W
    have x0 := Ext.refl W
    have tk : ¬ (1 + 2 * (n : Int)) < 0 := by omega
    go_upto_region 17 with (first | (go_at_call 29; refine (eqSegmentS_any _ _ _ _ _ (mgR zs) _ (PairsOf.row (hg.ext x0)) (PairsOf.row (hw.ext x0)) rfl hL).mono ?_; rintro e w1 ⟨rfl, x1⟩; (try clear xc xf xs); (first | replace x0 := x0.trans x1 | replace x0 := (x0.alloc _).trans x1 | replace x0 := (x0.drew).trans x1 | replace x0 := (x0.drew.alloc _).trans x1 | replace x0 := (x0.alloc _).drew.trans x1 | replace x0 := ((x0.alloc _).alloc _).trans x1 | have x0 := x1); clear x1; obtain ⟨xc, xf, xs⟩ := x0.cells))
    replace hw := hw.ext x0
    replace hg := hg.ext x0
    replace hrW := hrW.ext x0
    replace hE := hE.trans x0
    (try clear xc xf xs)
    clear x0
    rename World => W
    have x0 := Ext.refl W
    go_upto_region 18 with (go_at_call 35; refine (markOwn_any _ _ _ _ 1 (mgR zs) _ hg hL (by omega)).mono ?_; rintro e w1 ⟨rfl, ⟨ys, hy, hyz⟩, hwr⟩)
    replace hw := hw.wrote hwr hpgw
    replace hE := hwr.ext hE (fun k hk => by have := (hg.lt k hk).1; omega)
    replace hrW := hr.ext hE
    clear hwr hg hpgw x0 
    rename World => W
    have x0 := Ext.refl W
    replace hyz := Lib.hid hyz
    have tm : ¬ (1 + 2 * (((mgR zs).length : Nat) : Int)) < 0 := by omega
    go_upto_region 24 with (go_at_call 36; refine (heldOwn_any _ _ _ _ 1 ys _ (hy.ext x0) hyz.out hL (by omega)).mono ?_; rintro e w1 ⟨rfl, x1⟩; (try clear xc xf xs); (first | replace x0 := x0.trans x1 | replace x0 := (x0.alloc _).trans x1 | replace x0 := (x0.drew).trans x1 | replace x0 := (x0.drew.alloc _).trans x1 | replace x0 := (x0.alloc _).drew.trans x1 | replace x0 := ((x0.alloc _).alloc _).trans x1 | have x0 := x1); clear x1; obtain ⟨xc, xf, xs⟩ := x0.cells)
    replace hw := hw.ext x0
    replace hy := hy.ext x0
    replace hrW := hrW.ext x0
    replace hE := hE.trans x0
    (try clear xc xf xs)
    clear x0
    rename World => W
    have x0 := Ext.refl W
    go_upto_region 25 with (first | (go_at_call 27; refine (toSegmentS_any _ _ _ zs _ (hrW.ext x0) hn hs).mono ?_; rintro e w1 ⟨rfl, hf, x1⟩; have hg0 := hf.row hn.symm; (try clear xc xf xs); (first | replace x0 := x0.trans x1 | replace x0 := (x0.alloc _).trans x1 | replace x0 := (x0.drew).trans x1 | replace x0 := (x0.drew.alloc _).trans x1 | replace x0 := (x0.alloc _).drew.trans x1 | replace x0 := ((x0.alloc _).alloc _).trans x1 | have x0 := x1); clear x1; obtain ⟨xc, xf, xs⟩ := x0.cells) | (go_at_call 34; refine (implMergeSegments_any _ _ _ zs _ (hg0) hn hs).mono ?_; rintro e w1 ⟨vh, rfl, hh, x1⟩; have hsz := x0.size; (try clear xc xf xs); (first | replace x0 := x0.trans x1 | replace x0 := (x0.alloc _).trans x1 | replace x0 := (x0.drew).trans x1 | replace x0 := (x0.drew.alloc _).trans x1 | replace x0 := (x0.alloc _).drew.trans x1 | replace x0 := ((x0.alloc _).alloc _).trans x1 | have x0 := x1); clear x1; obtain ⟨xc, xf, xs⟩ := x0.cells))
    replace hh := PairsOf.low hh hsz
    clear hg0 hf hsz
    replace hw := hw.ext x0
    replace hy := hy.ext x0
    replace hrW := hrW.ext x0
    replace hE := hE.trans x0
    (try clear xc xf xs)
    clear x0
    rename World => W
    have x0 := Ext.refl W
    obtain ⟨ah, ch, rfl⟩ := hh.shape
    go_wp2_with (first | (go_at_call 29; refine (eqSegmentS_any _ _ _ _ _ (mgR zs) _ (PairsOf.row (hh.ext x0)) (PairsOf.row (hw.ext x0)) rfl hL).mono ?_; rintro e w1 ⟨rfl, x1⟩; (try clear xc xf xs); (first | replace x0 := x0.trans x1 | replace x0 := (x0.alloc _).trans x1 | replace x0 := (x0.drew).trans x1 | replace x0 := (x0.drew.alloc _).trans x1 | replace x0 := (x0.alloc _).drew.trans x1 | replace x0 := ((x0.alloc _).alloc _).trans x1 | have x0 := x1); clear x1; obtain ⟨xc, xf, xs⟩ := x0.cells) | (go_at_call 36; refine (heldOwn_any _ _ _ _ 1 ys _ (hy.ext x0) hyz.out hL (by omega)).mono ?_; rintro e w1 ⟨rfl, x1⟩; (try clear xc xf xs); (first | replace x0 := x0.trans x1 | replace x0 := (x0.alloc _).trans x1 | replace x0 := (x0.drew).trans x1 | replace x0 := (x0.drew.alloc _).trans x1 | replace x0 := (x0.alloc _).drew.trans x1 | replace x0 := ((x0.alloc _).alloc _).trans x1 | have x0 := x1); clear x1; obtain ⟨xc, xf, xs⟩ := x0.cells))
    go_ret
    exact ⟨rfl, hE.trans x0⟩
  · have z := Lib.hid (show szOf n = -1 by simp [szOf, hs])
    go_enter Try.func8, Try.ntmps8
    go_wp2_with (first | (go_at_call 25; refine (szSegmentS_any _ _ _ _ hm).mono ?_; rintro e w1 ⟨rfl, rfl⟩; rw [z.out]))
    go_ret
    exact ⟨rfl, (Ext.refl _)⟩

end Go.Proofs.Ytiodlbgfgeimoaa
