/-
  The walk of the law FnPi.
-/
import Derived.Test.YtbhhiodbhlhpmaaDrawI
import Derived.Test.YtbhhiodbhlhpmaaDice
import Derived.Test.YtbhhiodbhlhpmaaPi
import Derived.Test.YtbhhiodbhlhpmaaThick
namespace Go.Proofs.Ytbhhiodbhlhpmaa
open Go.RowKit
set_option linter.unusedSimpArgs false
set_option linter.unusedVariables false

set_option maxRecDepth 100000 in
set_option maxHeartbeats 1000000 in
theorem drawPi_any (a : Option Addr) (n cp : Nat) (w : World) (hB0 : RowB w w.heap.size a n) (hn : n ≤ 1048576) :
    Calls Try.prog 38 #[.slice a n cp] w fun e w' => (∃ q, e = .returned (.int .i64 q)) ∧ Ext w w' := by
  go_enter Try.func38, Try.ntmps38
  go_upto_region 2 with (first | (go_at_call 70; refine (l00From_any a n cp _).mono ?_; rintro e w1 ⟨rfl, hS, x1⟩))
  have hB := hB0.to x1 (Nat.le_refl _)
  have hgg : w.heap.size ≤ w.heap.size := Nat.le_refl _
  generalize hg : w.heap.size = g at *
  have hW0 := Wrote.refl (some g) w1
  go_wp2_with (first | (go_at_call 72; refine (one_any g n cp _ _ a _ (by first | exact hS | exact hS.ext ((Ext.refl _).alloc _) | exact hS.ext (((Ext.refl _).alloc _).alloc _) | exact hS.ext ((((Ext.refl _).alloc _).alloc _).alloc _) | exact hS.ext ((Ext.refl _).drew) | exact hS.ext ((Ext.refl _).drew.alloc _) | exact hS.ext ((Ext.refl _).alloc _).drew) (by first | exact hB | exact hB.ext ((Ext.refl _).alloc _) | exact hB.ext (((Ext.refl _).alloc _).alloc _) | exact hB.ext ((((Ext.refl _).alloc _).alloc _).alloc _) | exact hB.ext ((Ext.refl _).drew) | exact hB.ext ((Ext.refl _).drew.alloc _) | exact hB.ext ((Ext.refl _).alloc _).drew) (by omega) hn).mono ?_; rintro e w1 ⟨x, rfl, hS2, hW⟩; (first | replace hW0 := hW0.trans hW | replace hW0 := (hW0.trans (Wrote.alloc _ _ _)).trans hW | replace hW0 := ((hW0.trans (Wrote.alloc _ _ _)).trans (Wrote.alloc _ _ _)).trans hW | replace hW0 := (((hW0.trans (Wrote.alloc _ _ _)).trans (Wrote.alloc _ _ _)).trans (Wrote.alloc _ _ _)).trans hW | replace hW0 := (hW0.trans (Wrote.of_ext _ ((Ext.refl _).drew))).trans hW | replace hW0 := (hW0.trans (Wrote.of_ext _ ((Ext.refl _).drew.alloc _))).trans hW | replace hW0 := (hW0.trans (Wrote.of_ext _ ((Ext.refl _).alloc _).drew)).trans hW); (first | replace hB := hB.wrote hW | replace hB := (hB.ext ((Ext.refl _).alloc _)).wrote hW | replace hB := (hB.ext (((Ext.refl _).alloc _).alloc _)).wrote hW | replace hB := (hB.ext ((((Ext.refl _).alloc _).alloc _).alloc _)).wrote hW | replace hB := (hB.ext ((Ext.refl _).drew)).wrote hW | replace hB := (hB.ext ((Ext.refl _).drew.alloc _)).wrote hW | replace hB := (hB.ext ((Ext.refl _).alloc _).drew).wrote hW); clear hS hW; have hS := hS2; clear hS2) | (go_at_call 71; refine (pick_any g n cp _ _ a _ (by first | exact hS | exact hS.ext ((Ext.refl _).alloc _) | exact hS.ext (((Ext.refl _).alloc _).alloc _) | exact hS.ext ((((Ext.refl _).alloc _).alloc _).alloc _) | exact hS.ext ((Ext.refl _).drew) | exact hS.ext ((Ext.refl _).drew.alloc _) | exact hS.ext ((Ext.refl _).alloc _).drew) (by first | exact hB | exact hB.ext ((Ext.refl _).alloc _) | exact hB.ext (((Ext.refl _).alloc _).alloc _) | exact hB.ext ((((Ext.refl _).alloc _).alloc _).alloc _) | exact hB.ext ((Ext.refl _).drew) | exact hB.ext ((Ext.refl _).drew.alloc _) | exact hB.ext ((Ext.refl _).alloc _).drew) (by omega) hn).mono ?_; rintro e w1 ⟨x, rfl, hx, hS2, hW⟩; (first | replace hW0 := hW0.trans hW | replace hW0 := (hW0.trans (Wrote.alloc _ _ _)).trans hW | replace hW0 := ((hW0.trans (Wrote.alloc _ _ _)).trans (Wrote.alloc _ _ _)).trans hW | replace hW0 := (((hW0.trans (Wrote.alloc _ _ _)).trans (Wrote.alloc _ _ _)).trans (Wrote.alloc _ _ _)).trans hW | replace hW0 := (hW0.trans (Wrote.of_ext _ ((Ext.refl _).drew))).trans hW | replace hW0 := (hW0.trans (Wrote.of_ext _ ((Ext.refl _).drew.alloc _))).trans hW | replace hW0 := (hW0.trans (Wrote.of_ext _ ((Ext.refl _).alloc _).drew)).trans hW); (first | replace hB := hB.wrote hW | replace hB := (hB.ext ((Ext.refl _).alloc _)).wrote hW | replace hB := (hB.ext (((Ext.refl _).alloc _).alloc _)).wrote hW | replace hB := (hB.ext ((((Ext.refl _).alloc _).alloc _).alloc _)).wrote hW | replace hB := (hB.ext ((Ext.refl _).drew)).wrote hW | replace hB := (hB.ext ((Ext.refl _).drew.alloc _)).wrote hW | replace hB := (hB.ext ((Ext.refl _).alloc _).drew).wrote hW); clear hS hW; have hS := hS2; clear hS2) | (go_at_call 73; refine (among_any g n cp _ _ _ _ _ _ a _ (by first | exact hS | exact hS.ext ((Ext.refl _).alloc _) | exact hS.ext (((Ext.refl _).alloc _).alloc _) | exact hS.ext ((((Ext.refl _).alloc _).alloc _).alloc _) | exact hS.ext ((Ext.refl _).drew) | exact hS.ext ((Ext.refl _).drew.alloc _) | exact hS.ext ((Ext.refl _).alloc _).drew) (by first | exact hB | exact hB.ext ((Ext.refl _).alloc _) | exact hB.ext (((Ext.refl _).alloc _).alloc _) | exact hB.ext ((((Ext.refl _).alloc _).alloc _).alloc _) | exact hB.ext ((Ext.refl _).drew) | exact hB.ext ((Ext.refl _).drew.alloc _) | exact hB.ext ((Ext.refl _).alloc _).drew) (by omega) hn (by first | exact lit2 _ _ _ | exact lit3 _ _ _ _ | exact lit4 _ _ _ _ _ | exact lit5 _ _ _ _ _ _ | exact lit8 _ _ _ _ _ _ _ _ _) (by omega) (by have := hS.lt; simp; omega)).mono ?_; rintro e w1 ⟨x, rfl, hS2, hW⟩; (first | replace hW0 := hW0.trans hW | replace hW0 := (hW0.trans (Wrote.alloc _ _ _)).trans hW | replace hW0 := ((hW0.trans (Wrote.alloc _ _ _)).trans (Wrote.alloc _ _ _)).trans hW | replace hW0 := (((hW0.trans (Wrote.alloc _ _ _)).trans (Wrote.alloc _ _ _)).trans (Wrote.alloc _ _ _)).trans hW | replace hW0 := (hW0.trans (Wrote.of_ext _ ((Ext.refl _).drew))).trans hW | replace hW0 := (hW0.trans (Wrote.of_ext _ ((Ext.refl _).drew.alloc _))).trans hW | replace hW0 := (hW0.trans (Wrote.of_ext _ ((Ext.refl _).alloc _).drew)).trans hW); (first | replace hB := hB.wrote hW | replace hB := (hB.ext ((Ext.refl _).alloc _)).wrote hW | replace hB := (hB.ext (((Ext.refl _).alloc _).alloc _)).wrote hW | replace hB := (hB.ext ((((Ext.refl _).alloc _).alloc _).alloc _)).wrote hW | replace hB := (hB.ext ((Ext.refl _).drew)).wrote hW | replace hB := (hB.ext ((Ext.refl _).drew.alloc _)).wrote hW | replace hB := (hB.ext ((Ext.refl _).alloc _).drew).wrote hW); clear hS hW; have hS := hS2; clear hS2))
  all_goals go_ret
  all_goals exact ⟨⟨_, rfl⟩, Wrote.ext x1 hW0 (fun k hk => by injection hk; omega)⟩

theorem piLo_bd {x : Int} (hx : 0 ≤ x ∧ x ≤ 1000000000) : (0 ≤ piLo x ∧ piLo x ≤ 4000000000) ∧ (0 ≤ piHi x ∧ piHi x ≤ 4000000000) := by
  obtain ⟨e1, e2, _⟩ := pi_in hx
  rw [e1, e2]
  omega
theorem pi_sum {x y : Int} (hx : 0 ≤ x ∧ x ≤ 1000000000) (hy : 0 ≤ y ∧ y ≤ x) : (piC y = 0 ∧ piC (x - y) = 0) ∧ piLo x ≤ piHi x ∧ piHi x - piLo x ≤ 2 ∧ piLo y + piLo (x - y) ≤ piLo x ∧ piHi x ≤ piHi y + piHi (x - y) := by
  obtain ⟨e1, e2, e3⟩ := pi_in hx
  obtain ⟨f1, f2, f3⟩ := pi_in (n := y) (by omega)
  obtain ⟨g1, g2, g3⟩ := pi_in (n := x - y) (by omega)
  rw [e1, e2, f1, f2, g1, g2]
  refine ⟨⟨f3, g3⟩, ?_, ?_, ?_, ?_⟩ <;> omega

set_option maxRecDepth 100000 in
set_option maxHeartbeats 2000000 in
theorem fnPi_walk (a : Option Addr) (n cp : Nat) (w : World) (hB : RowB w w.heap.size a n) :
    Calls Try.prog 11 #[.slice a n cp] w fun e w' => e = .returned (.bool true) ∧ Ext w w' := by
  by_cases hbig : 4096 < n
  · have t1 : decide (4096 < n) = true := by simpa using hbig
    go_enter Try.func11, Try.ntmps11
    go_wp2_with (first | (go_at_call 37; refine (f6big_any a n cp _).mono ?_; rintro e w1 ⟨rfl, rfl⟩; rw [t1]))
    go_ret
    exact ⟨rfl, Ext.refl _⟩
  have t1 : decide (4096 < n) = false := by simpa using hbig
  go_enter Try.func11, Try.ntmps11
  go_upto_region 4 with (first | (go_at_call 37; refine (f6big_any a n cp _).mono ?_; rintro e w1 ⟨rfl, rfl⟩; rw [t1]) | (go_at_call 38; refine (drawPi_any a n cp _ hB (by omega)).mono ?_; rintro e w1 ⟨⟨q, rfl⟩, x1⟩))
  cases hin : inB q 0 1000000000
  · have hc : piC q = 2 := by simp [piC, hin]
    go_wp2_with (first | (go_at_call 22; refine (implPiBounds_any q _).mono ?_; rintro e w2 ⟨rfl, rfl⟩; rw [hc]; skip) | (go_at_call 21; refine (specPiBounds_any q _).mono ?_; rintro e w2 ⟨rfl, rfl⟩; rw [hc]; skip))
    go_ret
    exact ⟨rfl, x1⟩
  · have hq := inB_iff.1 hin
    have hc := (pi_in hq).2.2
    have q1 : IntKind.i64.wrap (q + 1) = q + 1 := IntWalk.i64_in _ (by omega)
    go_upto_region 11 with (first | (go_at_call 22; refine (implPiBounds_any q _).mono ?_; rintro e w2 ⟨rfl, rfl⟩; rw [hc]; skip) | (go_at_call 21; refine (specPiBounds_any q _).mono ?_; rintro e w2 ⟨rfl, rfl⟩; rw [hc]; skip) | (go_at_call 39; refine (f6roll_any a n cp 1001 _ (hB.to x1 x1.size) (by omega)).mono ?_; rintro e w2 ⟨rfl, hS9, x9⟩; have hB9 := hB.to (g' := w1.heap.size) (x1.trans x9) x1.size; have x0 : Ext w1 w2 := x9) | (go_at_call 40; refine (below_any w1.heap.size n cp 0 (q + 1) a _ hS9 hB9 (by omega) (by omega) (by omega)).mono ?_; rintro e w3 ⟨d, rfl, hd, hS8, hW9⟩; replace x0 := Wrote.ext x0 hW9 (fun k hk => by injection hk; omega)))
    obtain ⟨⟨c1, c2⟩, h1, h2, h3, h4⟩ := pi_sum (y := d) hq (by omega)
    have b1 := piLo_bd hq
    have b2 := piLo_bd (x := d) (by omega)
    have b3 := piLo_bd (x := q - d) (by omega)
    have q2 : IntKind.i64.wrap (q - d) = q - d := IntWalk.i64_in _ (by omega)
    have q3 : IntKind.i64.wrap (piHi q - piLo q) = piHi q - piLo q := IntWalk.i64_in _ (by omega)
    have q4 : IntKind.i64.wrap (piLo d + piLo (q - d)) = piLo d + piLo (q - d) := IntWalk.i64_in _ (by omega)
    have q5 : IntKind.i64.wrap (piHi d + piHi (q - d)) = piHi d + piHi (q - d) := IntWalk.i64_in _ (by omega)
    clear b1 b2 b3 hd hq hS9 hB9 hS8 hW9 x9 hin hB
    go_upto_region 12 with (first | (go_at_call 22; refine (implPiBounds_any d _).mono ?_; rintro e w2 ⟨rfl, rfl⟩; rw [c1]; skip))
    go_upto_region 13 with (first | (go_at_call 22; refine (implPiBounds_any (q - d) _).mono ?_; rintro e w2 ⟨rfl, rfl⟩; rw [c2]; skip))
    go_wp2_with fail
    go_ret
    exact ⟨rfl, x1.trans x0⟩
end Go.Proofs.Ytbhhiodbhlhpmaa
