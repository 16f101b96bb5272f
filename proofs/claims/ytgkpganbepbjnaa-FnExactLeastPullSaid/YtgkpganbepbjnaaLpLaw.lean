/-
  The walk of the law of the least torque of the first arbor.
-/
import Derived.Test.YtgkpganbepbjnaaLp
import Derived.Test.YtgkpganbepbjnaaPairs
import Derived.Deep.DeepCutAuto
namespace Go.Proofs.Ytgkpganbepbjnaa
open Go.RowKit
set_option linter.unusedSimpArgs false
set_option linter.unusedVariables false

set_option maxRecDepth 100000 in
set_option maxHeartbeats 8000000 in
theorem leastPull_walk (a : Option Addr) (n cp : Nat) (zs : List (Int × Int)) (q u : Int) (w : World) (hr : RowAt w a zs) (hn : zs.length = n) (hm : n ≤ 9223372036854775807) :
    Calls Try.prog 6 #[.slice a n cp, .int .i64 q, .int .i64 u] w fun e w' => e = .returned (.bool true) ∧ Ext w w' := by
  by_cases hs : n ≤ 1048576
  · have z := Lib.hid (show szOf n = 1048576 - (n : Int) by simp [szOf, hs])
    have t0 : ¬ (1048576 - (n : Int)) < 0 := by omega
    have x0 := Ext.refl w
    go_enter Try.func6, Try.ntmps6
    go_upto_region 6 with (first | (go_at_call 24; refine (szPairS_any _ _ _ _ hm).mono ?_; rintro e w1 ⟨rfl, rfl⟩; rw [z.out]) | (go_at_call 26; refine (toPairS_any _ _ _ zs _ (hr.ext x0) hn hs).mono ?_; rintro e w1 ⟨rfl, hf, x1⟩; have hg0 := hf.row hn.symm; (try clear xc xf xs); (first | replace x0 := x0.trans x1 | replace x0 := (x0.alloc _).trans x1 | replace x0 := (x0.drew).trans x1 | replace x0 := (x0.drew.alloc _).trans x1 | replace x0 := (x0.alloc _).drew.trans x1 | replace x0 := ((x0.alloc _).alloc _).trans x1 | have x0 := x1); clear x1; obtain ⟨xc, xf, xs⟩ := x0.cells) | (go_at_call 25; refine (specLeastPull_any _ _ _ zs q u _ hg0 hn hs).mono ?_; rintro e w1 ⟨rfl, x1⟩; (try clear xc xf xs); (first | replace x0 := x0.trans x1 | replace x0 := (x0.alloc _).trans x1 | replace x0 := (x0.drew).trans x1 | replace x0 := (x0.drew.alloc _).trans x1 | replace x0 := (x0.alloc _).drew.trans x1 | replace x0 := ((x0.alloc _).alloc _).trans x1 | have x0 := x1); clear x1; obtain ⟨xc, xf, xs⟩ := x0.cells))
    clear hg0 hf
    go_upto_region 7 with (go_at_call 26; refine (toPairS_any _ _ _ zs _ (hr.ext x0) hn hs).mono ?_; rintro e w1 ⟨rfl, hf, x1⟩; have hx := hf.row hn.symm; (try clear xc xf xs); (first | replace x0 := x0.trans x1 | replace x0 := (x0.alloc _).trans x1 | replace x0 := (x0.drew).trans x1 | replace x0 := (x0.drew.alloc _).trans x1 | replace x0 := (x0.alloc _).drew.trans x1 | replace x0 := ((x0.alloc _).alloc _).trans x1 | have x0 := x1); clear x1; obtain ⟨xc, xf, xs⟩ := x0.cells)
    clear hf
    go_upto_region 10 with (go_at_call 27; refine (implLeastPull_any _ _ _ zs q u _ hx hn hs).mono ?_; rintro e w1 ⟨rfl, x1⟩; replace hx := RowAt.ext hx x1; (try clear xc xf xs); (first | replace x0 := x0.trans x1 | replace x0 := (x0.alloc _).trans x1 | replace x0 := (x0.drew).trans x1 | replace x0 := (x0.drew.alloc _).trans x1 | replace x0 := (x0.alloc _).drew.trans x1 | replace x0 := ((x0.alloc _).alloc _).trans x1 | have x0 := x1); clear x1; obtain ⟨xc, xf, xs⟩ := x0.cells)
    go_wp2_with (first | (go_at_call 26; refine (toPairS_any _ _ _ zs _ (hr.ext x0) hn hs).mono ?_; rintro e w1 ⟨rfl, hf, x1⟩; have hc := hf.row hn.symm; replace hx := RowAt.ext hx x1; (try clear xc xf xs); (first | replace x0 := x0.trans x1 | replace x0 := (x0.alloc _).trans x1 | replace x0 := (x0.drew).trans x1 | replace x0 := (x0.drew.alloc _).trans x1 | replace x0 := (x0.alloc _).drew.trans x1 | replace x0 := ((x0.alloc _).alloc _).trans x1 | have x0 := x1); clear x1; obtain ⟨xc, xf, xs⟩ := x0.cells) | (go_at_call 28; refine (eqPairS_any _ _ _ _ _ zs _ hx hc hn hs).mono ?_; rintro e w1 ⟨rfl, x1⟩; (try clear xc xf xs); (first | replace x0 := x0.trans x1 | replace x0 := (x0.alloc _).trans x1 | replace x0 := (x0.drew).trans x1 | replace x0 := (x0.drew.alloc _).trans x1 | replace x0 := (x0.alloc _).drew.trans x1 | replace x0 := ((x0.alloc _).alloc _).trans x1 | have x0 := x1); clear x1; obtain ⟨xc, xf, xs⟩ := x0.cells))
    go_ret
    exact ⟨rfl, x0⟩
  · have z := Lib.hid (show szOf n = -1 by simp [szOf, hs])
    go_enter Try.func6, Try.ntmps6
    go_wp2_with (first | (go_at_call 24; refine (szPairS_any _ _ _ _ hm).mono ?_; rintro e w1 ⟨rfl, rfl⟩; rw [z.out]))
    go_ret
    exact ⟨rfl, Ext.refl _⟩
end Go.Proofs.Ytgkpganbepbjnaa
