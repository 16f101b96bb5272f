/-
  What the laws on escapements draw: it is there, and only the source has moved on.
-/
import Derived.Test.YtehebhphlaghfaaSrc2
import Derived.Deep.DeepCutAuto
namespace Go.Proofs.Ytehebhphlaghfaa
open Go.RowKit
set_option linter.unusedSimpArgs false
set_option linter.unusedVariables false

theorem Src.other {w : World} {g n cp k : Nat} {a : Option Addr} (h : Src w g a n cp k) {p : Addr} (hp : p.block ≠ g) (u : Value) : Src (w.setCell p u) g a n cp k := by
  have hc : ∀ o, (w.setCell p u).cell? ⟨g, o, none⟩ = w.cell? ⟨g, o, none⟩ := fun o => World.cell?_setCell_other w _ _ u (by intro e; apply hp; rw [e])
  exact ⟨by simpa [World.setCell] using h.lt, by rw [hc]; exact h.c0, by obtain ⟨t, ht, h1⟩ := h.c1; exact ⟨t, ht, by rw [hc]; exact h1⟩, by obtain ⟨z, h2⟩ := h.c2; exact ⟨z, by rw [hc]; exact h2⟩, by simpa using h.z1, by simpa using h.z2⟩
theorem Wrote.fresh {row : Option Nat} {w w1 : World} (h : Wrote row w w1) {p : Addr} (hp : w.heap.size ≤ p.block) (u : Value) : Wrote row w (w1.setCell p u) :=
  ⟨⟨h.1.os, h.1.tape, h.1.output, by simpa [World.setCell] using h.1.size, fun k hk hne => (Below.heap_setCell _ _ _ _ (by omega)).trans (h.1.block k hk hne)⟩, h.2⟩
theorem lit2 (w : World) (a b : Int) : IntsOf (w.alloc (.cells #[.int .i64 a, .int .i64 b] 2)) w.heap.size (.slice (some ⟨w.heap.size, 0, none⟩) 2 2) [a, b] :=
  ⟨by simp, .inr ⟨w.heap.size, 2, _, rfl, Nat.le_refl _, heap_alloc_new w _, Nat.le_refl _, by decide, by simp, by simp⟩⟩
theorem lit3 (w : World) (a b c : Int) : IntsOf (w.alloc (.cells #[.int .i64 a, .int .i64 b, .int .i64 c] 2)) w.heap.size (.slice (some ⟨w.heap.size, 0, none⟩) 3 3) [a, b, c] :=
  ⟨by simp, .inr ⟨w.heap.size, 3, _, rfl, Nat.le_refl _, heap_alloc_new w _, Nat.le_refl _, by decide, by simp, by simp⟩⟩
theorem lit4 (w : World) (a b c d : Int) : IntsOf (w.alloc (.cells #[.int .i64 a, .int .i64 b, .int .i64 c, .int .i64 d] 2)) w.heap.size (.slice (some ⟨w.heap.size, 0, none⟩) 4 4) [a, b, c, d] :=
  ⟨by simp, .inr ⟨w.heap.size, 4, _, rfl, Nat.le_refl _, heap_alloc_new w _, Nat.le_refl _, by decide, by simp, by simp⟩⟩
theorem lit5 (w : World) (a b c d e : Int) : IntsOf (w.alloc (.cells #[.int .i64 a, .int .i64 b, .int .i64 c, .int .i64 d, .int .i64 e] 2)) w.heap.size (.slice (some ⟨w.heap.size, 0, none⟩) 5 5) [a, b, c, d, e] :=
  ⟨by simp, .inr ⟨w.heap.size, 5, _, rfl, Nat.le_refl _, heap_alloc_new w _, Nat.le_refl _, by decide, by simp, by simp⟩⟩

set_option maxRecDepth 100000 in
set_option maxHeartbeats 4000000 in
theorem drawTorque_any (g n cp k : Nat) (a : Option Addr) (w : World) (hS : Src w g a n cp k) (hB : RowB w g a n) (hk : k ≤ 800000) (hn : n ≤ 1048576) :
    Calls Try.prog 63 #[.pointer (some ⟨g, 0, none⟩)] w fun e w' => ∃ q, e = .returned (.int .i64 q) ∧ Src w' g a n cp (k + 4) ∧ Wrote (some g) w w' := by
  have hW0 := Wrote.refl (some g) w
  go_enter Try.func63, Try.ntmps63
  go_wp2_with (first | (go_at_call 71; refine (one_any g n cp _ _ a _ (by first | exact hS | exact hS.ext ((Ext.refl _).alloc _) | exact hS.ext (((Ext.refl _).alloc _).alloc _) | exact hS.ext ((((Ext.refl _).alloc _).alloc _).alloc _)) (by first | exact hB | exact hB.ext ((Ext.refl _).alloc _) | exact hB.ext (((Ext.refl _).alloc _).alloc _) | exact hB.ext ((((Ext.refl _).alloc _).alloc _).alloc _)) (by omega) hn).mono ?_; rintro e w1 ⟨x, rfl, hS2, hW⟩; (first | replace hW0 := hW0.trans hW | replace hW0 := (hW0.trans (Wrote.alloc _ _ _)).trans hW | replace hW0 := ((hW0.trans (Wrote.alloc _ _ _)).trans (Wrote.alloc _ _ _)).trans hW | replace hW0 := (((hW0.trans (Wrote.alloc _ _ _)).trans (Wrote.alloc _ _ _)).trans (Wrote.alloc _ _ _)).trans hW); (first | replace hB := hB.wrote hW | replace hB := (hB.ext ((Ext.refl _).alloc _)).wrote hW | replace hB := (hB.ext (((Ext.refl _).alloc _).alloc _)).wrote hW | replace hB := (hB.ext ((((Ext.refl _).alloc _).alloc _).alloc _)).wrote hW); clear hS hW; have hS := hS2; clear hS2) | (go_at_call 70; refine (pick_any g n cp _ _ a _ (by first | exact hS | exact hS.ext ((Ext.refl _).alloc _) | exact hS.ext (((Ext.refl _).alloc _).alloc _) | exact hS.ext ((((Ext.refl _).alloc _).alloc _).alloc _)) (by first | exact hB | exact hB.ext ((Ext.refl _).alloc _) | exact hB.ext (((Ext.refl _).alloc _).alloc _) | exact hB.ext ((((Ext.refl _).alloc _).alloc _).alloc _)) (by omega) hn).mono ?_; rintro e w1 ⟨x, rfl, hx, hS2, hW⟩; (first | replace hW0 := hW0.trans hW | replace hW0 := (hW0.trans (Wrote.alloc _ _ _)).trans hW | replace hW0 := ((hW0.trans (Wrote.alloc _ _ _)).trans (Wrote.alloc _ _ _)).trans hW | replace hW0 := (((hW0.trans (Wrote.alloc _ _ _)).trans (Wrote.alloc _ _ _)).trans (Wrote.alloc _ _ _)).trans hW); (first | replace hB := hB.wrote hW | replace hB := (hB.ext ((Ext.refl _).alloc _)).wrote hW | replace hB := (hB.ext (((Ext.refl _).alloc _).alloc _)).wrote hW | replace hB := (hB.ext ((((Ext.refl _).alloc _).alloc _).alloc _)).wrote hW); clear hS hW; have hS := hS2; clear hS2) | (go_at_call 86; refine (among_any g n cp _ _ _ _ _ _ a _ (by first | exact hS | exact hS.ext ((Ext.refl _).alloc _) | exact hS.ext (((Ext.refl _).alloc _).alloc _) | exact hS.ext ((((Ext.refl _).alloc _).alloc _).alloc _)) (by first | exact hB | exact hB.ext ((Ext.refl _).alloc _) | exact hB.ext (((Ext.refl _).alloc _).alloc _) | exact hB.ext ((((Ext.refl _).alloc _).alloc _).alloc _)) (by omega) hn (by first | exact lit2 _ _ _ | exact lit3 _ _ _ _ | exact lit4 _ _ _ _ _ | exact lit5 _ _ _ _ _ _) (by omega) (by have := hS.lt; simp; omega)).mono ?_; rintro e w1 ⟨x, rfl, hS2, hW⟩; (first | replace hW0 := hW0.trans hW | replace hW0 := (hW0.trans (Wrote.alloc _ _ _)).trans hW | replace hW0 := ((hW0.trans (Wrote.alloc _ _ _)).trans (Wrote.alloc _ _ _)).trans hW | replace hW0 := (((hW0.trans (Wrote.alloc _ _ _)).trans (Wrote.alloc _ _ _)).trans (Wrote.alloc _ _ _)).trans hW); (first | replace hB := hB.wrote hW | replace hB := (hB.ext ((Ext.refl _).alloc _)).wrote hW | replace hB := (hB.ext (((Ext.refl _).alloc _).alloc _)).wrote hW | replace hB := (hB.ext ((((Ext.refl _).alloc _).alloc _).alloc _)).wrote hW); clear hS hW; have hS := hS2; clear hS2))
  all_goals go_ret
  all_goals exact ⟨_, rfl, hS.more (by omega), hW0⟩
set_option maxRecDepth 100000 in
set_option maxHeartbeats 4000000 in
theorem drawCount_any (g n cp k : Nat) (a : Option Addr) (w : World) (hS : Src w g a n cp k) (hB : RowB w g a n) (hk : k ≤ 800000) (hn : n ≤ 1048576) :
    Calls Try.prog 82 #[.pointer (some ⟨g, 0, none⟩)] w fun e w' => ∃ q, e = .returned (.int .i64 q) ∧ Src w' g a n cp (k + 4) ∧ Wrote (some g) w w' := by
  have hW0 := Wrote.refl (some g) w
  go_enter Try.func82, Try.ntmps82
  go_wp2_with (first | (go_at_call 71; refine (one_any g n cp _ _ a _ (by first | exact hS | exact hS.ext ((Ext.refl _).alloc _) | exact hS.ext (((Ext.refl _).alloc _).alloc _) | exact hS.ext ((((Ext.refl _).alloc _).alloc _).alloc _)) (by first | exact hB | exact hB.ext ((Ext.refl _).alloc _) | exact hB.ext (((Ext.refl _).alloc _).alloc _) | exact hB.ext ((((Ext.refl _).alloc _).alloc _).alloc _)) (by omega) hn).mono ?_; rintro e w1 ⟨x, rfl, hS2, hW⟩; (first | replace hW0 := hW0.trans hW | replace hW0 := (hW0.trans (Wrote.alloc _ _ _)).trans hW | replace hW0 := ((hW0.trans (Wrote.alloc _ _ _)).trans (Wrote.alloc _ _ _)).trans hW | replace hW0 := (((hW0.trans (Wrote.alloc _ _ _)).trans (Wrote.alloc _ _ _)).trans (Wrote.alloc _ _ _)).trans hW); (first | replace hB := hB.wrote hW | replace hB := (hB.ext ((Ext.refl _).alloc _)).wrote hW | replace hB := (hB.ext (((Ext.refl _).alloc _).alloc _)).wrote hW | replace hB := (hB.ext ((((Ext.refl _).alloc _).alloc _).alloc _)).wrote hW); clear hS hW; have hS := hS2; clear hS2) | (go_at_call 70; refine (pick_any g n cp _ _ a _ (by first | exact hS | exact hS.ext ((Ext.refl _).alloc _) | exact hS.ext (((Ext.refl _).alloc _).alloc _) | exact hS.ext ((((Ext.refl _).alloc _).alloc _).alloc _)) (by first | exact hB | exact hB.ext ((Ext.refl _).alloc _) | exact hB.ext (((Ext.refl _).alloc _).alloc _) | exact hB.ext ((((Ext.refl _).alloc _).alloc _).alloc _)) (by omega) hn).mono ?_; rintro e w1 ⟨x, rfl, hx, hS2, hW⟩; (first | replace hW0 := hW0.trans hW | replace hW0 := (hW0.trans (Wrote.alloc _ _ _)).trans hW | replace hW0 := ((hW0.trans (Wrote.alloc _ _ _)).trans (Wrote.alloc _ _ _)).trans hW | replace hW0 := (((hW0.trans (Wrote.alloc _ _ _)).trans (Wrote.alloc _ _ _)).trans (Wrote.alloc _ _ _)).trans hW); (first | replace hB := hB.wrote hW | replace hB := (hB.ext ((Ext.refl _).alloc _)).wrote hW | replace hB := (hB.ext (((Ext.refl _).alloc _).alloc _)).wrote hW | replace hB := (hB.ext ((((Ext.refl _).alloc _).alloc _).alloc _)).wrote hW); clear hS hW; have hS := hS2; clear hS2) | (go_at_call 86; refine (among_any g n cp _ _ _ _ _ _ a _ (by first | exact hS | exact hS.ext ((Ext.refl _).alloc _) | exact hS.ext (((Ext.refl _).alloc _).alloc _) | exact hS.ext ((((Ext.refl _).alloc _).alloc _).alloc _)) (by first | exact hB | exact hB.ext ((Ext.refl _).alloc _) | exact hB.ext (((Ext.refl _).alloc _).alloc _) | exact hB.ext ((((Ext.refl _).alloc _).alloc _).alloc _)) (by omega) hn (by first | exact lit2 _ _ _ | exact lit3 _ _ _ _ | exact lit4 _ _ _ _ _ | exact lit5 _ _ _ _ _ _) (by omega) (by have := hS.lt; simp; omega)).mono ?_; rintro e w1 ⟨x, rfl, hS2, hW⟩; (first | replace hW0 := hW0.trans hW | replace hW0 := (hW0.trans (Wrote.alloc _ _ _)).trans hW | replace hW0 := ((hW0.trans (Wrote.alloc _ _ _)).trans (Wrote.alloc _ _ _)).trans hW | replace hW0 := (((hW0.trans (Wrote.alloc _ _ _)).trans (Wrote.alloc _ _ _)).trans (Wrote.alloc _ _ _)).trans hW); (first | replace hB := hB.wrote hW | replace hB := (hB.ext ((Ext.refl _).alloc _)).wrote hW | replace hB := (hB.ext (((Ext.refl _).alloc _).alloc _)).wrote hW | replace hB := (hB.ext ((((Ext.refl _).alloc _).alloc _).alloc _)).wrote hW); clear hS hW; have hS := hS2; clear hS2))
  all_goals go_ret
  all_goals exact ⟨_, rfl, hS.more (by omega), hW0⟩
set_option maxRecDepth 100000 in
set_option maxHeartbeats 8000000 in
theorem drawEsc_any (g n cp k : Nat) (a : Option Addr) (w : World) (hS : Src w g a n cp k) (hB : RowB w g a n) (hk : k ≤ 700000) (hn : n ≤ 1048576) :
    Calls Try.prog 85 #[.pointer (some ⟨g, 0, none⟩)] w fun e w' => (∃ v0 v1 v2 v3 v4, e = .returned (.agg #[.int .i64 v0, .int .i64 v1, .int .i64 v2, .int .i64 v3, .int .i64 v4])) ∧ Src w' g a n cp (k + 20) ∧ Wrote (some g) w w' := by
  have hlg := hS.lt
  go_enter Try.func85, Try.ntmps85
  go_upto_region 1 with fail
  generalize hW : World.alloc _ _ = W
  have xW : Ext w W := by rw [← hW]; exact (Ext.refl _).alloc _
  have hlR : w.heap.size < W.heap.size := by rw [← hW]; simp
  have hneR : some w.heap.size ≠ some g := fun e => by injection e; omega
  have r00 : W.cell? ⟨w.heap.size, 0, none⟩ = some (.int .i64 0) := by rw [← hW]; simp [go_sem]
  have y00 : W.frozen? ⟨w.heap.size, 0, none⟩ = false := by rw [← hW]; simp
  have r01 : W.cell? ⟨w.heap.size, 1, none⟩ = some (.int .i64 0) := by rw [← hW]; simp [go_sem]
  have y01 : W.frozen? ⟨w.heap.size, 1, none⟩ = false := by rw [← hW]; simp
  have r02 : W.cell? ⟨w.heap.size, 2, none⟩ = some (.int .i64 0) := by rw [← hW]; simp [go_sem]
  have y02 : W.frozen? ⟨w.heap.size, 2, none⟩ = false := by rw [← hW]; simp
  have r03 : W.cell? ⟨w.heap.size, 3, none⟩ = some (.int .i64 0) := by rw [← hW]; simp [go_sem]
  have y03 : W.frozen? ⟨w.heap.size, 3, none⟩ = false := by rw [← hW]; simp
  have r04 : W.cell? ⟨w.heap.size, 4, none⟩ = some (.int .i64 0) := by rw [← hW]; simp [go_sem]
  have y04 : W.frozen? ⟨w.heap.size, 4, none⟩ = false := by rw [← hW]; simp
  clear hW
  replace hS := hS.ext xW
  replace hB := hB.ext xW
  have hW0 := Wrote.refl (some g) W
  have r0 := r00
  have y0 := y00
  have r1 := r01
  have y1 := y01
  have r2 := r02
  have y2 := y02
  have r3 := r03
  have y3 := y03
  have r4 := r04
  have y4 := y04
  go_wp2_with (first | (go_at_call 71; refine (one_any g n cp _ _ a _ (by first | exact hS | exact hS.ext ((Ext.refl _).alloc _) | exact hS.ext (((Ext.refl _).alloc _).alloc _) | exact hS.ext ((((Ext.refl _).alloc _).alloc _).alloc _)) (by first | exact hB | exact hB.ext ((Ext.refl _).alloc _) | exact hB.ext (((Ext.refl _).alloc _).alloc _) | exact hB.ext ((((Ext.refl _).alloc _).alloc _).alloc _)) (by omega) hn).mono ?_; rintro e w1 ⟨x, rfl, hS2, hW⟩; (first | replace hW0 := hW0.trans hW | replace hW0 := (hW0.trans (Wrote.alloc _ _ _)).trans hW | replace hW0 := ((hW0.trans (Wrote.alloc _ _ _)).trans (Wrote.alloc _ _ _)).trans hW | replace hW0 := (((hW0.trans (Wrote.alloc _ _ _)).trans (Wrote.alloc _ _ _)).trans (Wrote.alloc _ _ _)).trans hW); (first | replace hB := hB.wrote hW | replace hB := (hB.ext ((Ext.refl _).alloc _)).wrote hW | replace hB := (hB.ext (((Ext.refl _).alloc _).alloc _)).wrote hW | replace hB := (hB.ext ((((Ext.refl _).alloc _).alloc _).alloc _)).wrote hW); clear hS hW; have hS := hS2; clear hS2; (try clear r0 y0 r1 y1 r2 y2 r3 y3 r4 y4); have r0 := (hW0.cell hlR hneR).trans r00; have y0 := (hW0.free hlR hneR).trans y00; have r1 := (hW0.cell hlR hneR).trans r01; have y1 := (hW0.free hlR hneR).trans y01; have r2 := (hW0.cell hlR hneR).trans r02; have y2 := (hW0.free hlR hneR).trans y02; have r3 := (hW0.cell hlR hneR).trans r03; have y3 := (hW0.free hlR hneR).trans y03; have r4 := (hW0.cell hlR hneR).trans r04; have y4 := (hW0.free hlR hneR).trans y04) | (go_at_call 70; refine (pick_any g n cp _ _ a _ (by first | exact hS | exact hS.ext ((Ext.refl _).alloc _) | exact hS.ext (((Ext.refl _).alloc _).alloc _) | exact hS.ext ((((Ext.refl _).alloc _).alloc _).alloc _)) (by first | exact hB | exact hB.ext ((Ext.refl _).alloc _) | exact hB.ext (((Ext.refl _).alloc _).alloc _) | exact hB.ext ((((Ext.refl _).alloc _).alloc _).alloc _)) (by omega) hn).mono ?_; rintro e w1 ⟨x, rfl, hx, hS2, hW⟩; (first | replace hW0 := hW0.trans hW | replace hW0 := (hW0.trans (Wrote.alloc _ _ _)).trans hW | replace hW0 := ((hW0.trans (Wrote.alloc _ _ _)).trans (Wrote.alloc _ _ _)).trans hW | replace hW0 := (((hW0.trans (Wrote.alloc _ _ _)).trans (Wrote.alloc _ _ _)).trans (Wrote.alloc _ _ _)).trans hW); (first | replace hB := hB.wrote hW | replace hB := (hB.ext ((Ext.refl _).alloc _)).wrote hW | replace hB := (hB.ext (((Ext.refl _).alloc _).alloc _)).wrote hW | replace hB := (hB.ext ((((Ext.refl _).alloc _).alloc _).alloc _)).wrote hW); clear hS hW; have hS := hS2; clear hS2; (try clear r0 y0 r1 y1 r2 y2 r3 y3 r4 y4); have r0 := (hW0.cell hlR hneR).trans r00; have y0 := (hW0.free hlR hneR).trans y00; have r1 := (hW0.cell hlR hneR).trans r01; have y1 := (hW0.free hlR hneR).trans y01; have r2 := (hW0.cell hlR hneR).trans r02; have y2 := (hW0.free hlR hneR).trans y02; have r3 := (hW0.cell hlR hneR).trans r03; have y3 := (hW0.free hlR hneR).trans y03; have r4 := (hW0.cell hlR hneR).trans r04; have y4 := (hW0.free hlR hneR).trans y04) | (go_at_call 86; refine (among_any g n cp _ _ _ _ _ _ a _ (by first | exact hS | exact hS.ext ((Ext.refl _).alloc _) | exact hS.ext (((Ext.refl _).alloc _).alloc _) | exact hS.ext ((((Ext.refl _).alloc _).alloc _).alloc _)) (by first | exact hB | exact hB.ext ((Ext.refl _).alloc _) | exact hB.ext (((Ext.refl _).alloc _).alloc _) | exact hB.ext ((((Ext.refl _).alloc _).alloc _).alloc _)) (by omega) hn (by first | exact lit2 _ _ _ | exact lit3 _ _ _ _ | exact lit4 _ _ _ _ _ | exact lit5 _ _ _ _ _ _) (by omega) (by have := hS.lt; simp; omega)).mono ?_; rintro e w1 ⟨x, rfl, hS2, hW⟩; (first | replace hW0 := hW0.trans hW | replace hW0 := (hW0.trans (Wrote.alloc _ _ _)).trans hW | replace hW0 := ((hW0.trans (Wrote.alloc _ _ _)).trans (Wrote.alloc _ _ _)).trans hW | replace hW0 := (((hW0.trans (Wrote.alloc _ _ _)).trans (Wrote.alloc _ _ _)).trans (Wrote.alloc _ _ _)).trans hW); (first | replace hB := hB.wrote hW | replace hB := (hB.ext ((Ext.refl _).alloc _)).wrote hW | replace hB := (hB.ext (((Ext.refl _).alloc _).alloc _)).wrote hW | replace hB := (hB.ext ((((Ext.refl _).alloc _).alloc _).alloc _)).wrote hW); clear hS hW; have hS := hS2; clear hS2; (try clear r0 y0 r1 y1 r2 y2 r3 y3 r4 y4); have r0 := (hW0.cell hlR hneR).trans r00; have y0 := (hW0.free hlR hneR).trans y00; have r1 := (hW0.cell hlR hneR).trans r01; have y1 := (hW0.free hlR hneR).trans y01; have r2 := (hW0.cell hlR hneR).trans r02; have y2 := (hW0.free hlR hneR).trans y02; have r3 := (hW0.cell hlR hneR).trans r03; have y3 := (hW0.free hlR hneR).trans y03; have r4 := (hW0.cell hlR hneR).trans r04; have y4 := (hW0.free hlR hneR).trans y04))
  all_goals refine bodyPost_ret (v := ?_) ?_ rfl ?_
  all_goals try (simp [results, Try.results85, go_sem, *]; rfl)
  all_goals exact ⟨⟨_, _, _, _, _, rfl⟩, by (repeat (refine Src.other ?_ (by simp; omega) _)); exact hS.more (by omega), by (repeat (refine Wrote.fresh ?_ (by simp) _)); exact (Wrote.of_ext _ xW).trans hW0⟩
set_option maxRecDepth 100000 in
set_option maxHeartbeats 16000000 in
theorem drawBent_any (g n cp k : Nat) (a : Option Addr) (w : World) (hS : Src w g a n cp k) (hB : RowB w g a n) (hk : k ≤ 600000) (hn : n ≤ 1048576) :
    Calls Try.prog 62 #[.pointer (some ⟨g, 0, none⟩)] w fun e w' => (∃ v0 v1 v2 v3 v4, e = .returned (.agg #[.int .i64 v0, .int .i64 v1, .int .i64 v2, .int .i64 v3, .int .i64 v4])) ∧ Src w' g a n cp (k + 24) ∧ Wrote (some g) w w' := by
  have hlg := hS.lt
  go_enter Try.func62, Try.ntmps62
  go_upto_region 1 with fail
  generalize hW : World.alloc _ _ = W
  have xW : Ext w W := by rw [← hW]; exact (Ext.refl _).alloc _
  have hlR : w.heap.size < W.heap.size := by rw [← hW]; simp
  have hneR : some w.heap.size ≠ some g := fun e => by injection e; omega
  have r0R0 : W.cell? ⟨w.heap.size, 0, none⟩ = some (.int .i64 0) := by rw [← hW]; simp [go_sem]
  have y0R0 : W.frozen? ⟨w.heap.size, 0, none⟩ = false := by rw [← hW]; simp
  have r0R1 : W.cell? ⟨w.heap.size, 1, none⟩ = some (.int .i64 0) := by rw [← hW]; simp [go_sem]
  have y0R1 : W.frozen? ⟨w.heap.size, 1, none⟩ = false := by rw [← hW]; simp
  have r0R2 : W.cell? ⟨w.heap.size, 2, none⟩ = some (.int .i64 0) := by rw [← hW]; simp [go_sem]
  have y0R2 : W.frozen? ⟨w.heap.size, 2, none⟩ = false := by rw [← hW]; simp
  have r0R3 : W.cell? ⟨w.heap.size, 3, none⟩ = some (.int .i64 0) := by rw [← hW]; simp [go_sem]
  have y0R3 : W.frozen? ⟨w.heap.size, 3, none⟩ = false := by rw [← hW]; simp
  have r0R4 : W.cell? ⟨w.heap.size, 4, none⟩ = some (.int .i64 0) := by rw [← hW]; simp [go_sem]
  have y0R4 : W.frozen? ⟨w.heap.size, 4, none⟩ = false := by rw [← hW]; simp
  clear hW
  replace hS := hS.ext xW
  replace hB := hB.ext xW
  go_upto_region 2 with (go_at_call 85; refine (drawEsc_any g n cp _ a _ hS hB (by omega) hn).mono ?_; rintro e w1 ⟨⟨v0, v1, v2, v3, v4, rfl⟩, hS2, hWc⟩)
  generalize hV : World.alloc _ _ = V
  have xV : Ext w1 V := by rw [← hV]; exact (Ext.refl _).alloc _
  have hlE : w1.heap.size < V.heap.size := by rw [← hV]; simp
  have hs1 := hWc.size
  have hneE : some w1.heap.size ≠ some g := fun e => by injection e; have := hS2.lt; omega
  have hER : w1.heap.size ≠ w.heap.size := by omega
  have hRE : w.heap.size ≠ w1.heap.size := by omega
  have hl1 : w.heap.size < w1.heap.size := by omega
  have r0E0 : V.cell? ⟨w1.heap.size, 0, none⟩ = some (.int .i64 v0) := by rw [← hV]; simp [go_sem]
  have y0E0 : V.frozen? ⟨w1.heap.size, 0, none⟩ = false := by rw [← hV]; simp
  have r0E1 : V.cell? ⟨w1.heap.size, 1, none⟩ = some (.int .i64 v1) := by rw [← hV]; simp [go_sem]
  have y0E1 : V.frozen? ⟨w1.heap.size, 1, none⟩ = false := by rw [← hV]; simp
  have r0E2 : V.cell? ⟨w1.heap.size, 2, none⟩ = some (.int .i64 v2) := by rw [← hV]; simp [go_sem]
  have y0E2 : V.frozen? ⟨w1.heap.size, 2, none⟩ = false := by rw [← hV]; simp
  have r0E3 : V.cell? ⟨w1.heap.size, 3, none⟩ = some (.int .i64 v3) := by rw [← hV]; simp [go_sem]
  have y0E3 : V.frozen? ⟨w1.heap.size, 3, none⟩ = false := by rw [← hV]; simp
  have r0E4 : V.cell? ⟨w1.heap.size, 4, none⟩ = some (.int .i64 v4) := by rw [← hV]; simp [go_sem]
  have y0E4 : V.frozen? ⟨w1.heap.size, 4, none⟩ = false := by rw [← hV]; simp
  replace r0R0 := (xV.cells.1 _ _ hl1).trans ((hWc.cell hlR hneR).trans r0R0)
  replace y0R0 := (xV.cells.2.1 _ _ hl1).trans ((hWc.free hlR hneR).trans y0R0)
  replace r0R1 := (xV.cells.1 _ _ hl1).trans ((hWc.cell hlR hneR).trans r0R1)
  replace y0R1 := (xV.cells.2.1 _ _ hl1).trans ((hWc.free hlR hneR).trans y0R1)
  replace r0R2 := (xV.cells.1 _ _ hl1).trans ((hWc.cell hlR hneR).trans r0R2)
  replace y0R2 := (xV.cells.2.1 _ _ hl1).trans ((hWc.free hlR hneR).trans y0R2)
  replace r0R3 := (xV.cells.1 _ _ hl1).trans ((hWc.cell hlR hneR).trans r0R3)
  replace y0R3 := (xV.cells.2.1 _ _ hl1).trans ((hWc.free hlR hneR).trans y0R3)
  replace r0R4 := (xV.cells.1 _ _ hl1).trans ((hWc.cell hlR hneR).trans r0R4)
  replace y0R4 := (xV.cells.2.1 _ _ hl1).trans ((hWc.free hlR hneR).trans y0R4)
  replace hB := (hB.wrote hWc).ext xV
  replace hlR : w.heap.size < V.heap.size := by omega
  have hWV : Wrote (some g) w V := ((Wrote.of_ext _ xW).trans hWc).trans (Wrote.of_ext _ xV)
  have hws : w.heap.size ≤ w1.heap.size := by omega
  clear hS hV hWc
  have hS := hS2.ext xV
  clear hS2 xV
  generalize w1.heap.size = gE at *
  have hW0 := Wrote.refl (some g) V
  have rR0 := r0R0
  have yR0 := y0R0
  have rR1 := r0R1
  have yR1 := y0R1
  have rR2 := r0R2
  have yR2 := y0R2
  have rR3 := r0R3
  have yR3 := y0R3
  have rR4 := r0R4
  have yR4 := y0R4
  have rE0 := r0E0
  have yE0 := y0E0
  have rE1 := r0E1
  have yE1 := y0E1
  have rE2 := r0E2
  have yE2 := y0E2
  have rE3 := r0E3
  have yE3 := y0E3
  have rE4 := r0E4
  have yE4 := y0E4
  go_wp2_with (first | (go_at_call 70; refine (pick_any g n cp _ _ a _ (by first | exact hS | exact hS.ext ((Ext.refl _).alloc _) | exact hS.ext (((Ext.refl _).alloc _).alloc _) | exact hS.ext ((((Ext.refl _).alloc _).alloc _).alloc _)) (by first | exact hB | exact hB.ext ((Ext.refl _).alloc _) | exact hB.ext (((Ext.refl _).alloc _).alloc _) | exact hB.ext ((((Ext.refl _).alloc _).alloc _).alloc _)) (by omega) hn).mono ?_; rintro e w1 ⟨x, rfl, hx, hS2, hW⟩; (first | replace hW0 := hW0.trans hW | replace hW0 := (hW0.trans (Wrote.alloc _ _ _)).trans hW | replace hW0 := ((hW0.trans (Wrote.alloc _ _ _)).trans (Wrote.alloc _ _ _)).trans hW | replace hW0 := (((hW0.trans (Wrote.alloc _ _ _)).trans (Wrote.alloc _ _ _)).trans (Wrote.alloc _ _ _)).trans hW); (first | replace hB := hB.wrote hW | replace hB := (hB.ext ((Ext.refl _).alloc _)).wrote hW | replace hB := (hB.ext (((Ext.refl _).alloc _).alloc _)).wrote hW | replace hB := (hB.ext ((((Ext.refl _).alloc _).alloc _).alloc _)).wrote hW); clear hS hW; have hS := hS2; clear hS2; (try clear rR0 yR0 rR1 yR1 rR2 yR2 rR3 yR3 rR4 yR4 rE0 yE0 rE1 yE1 rE2 yE2 rE3 yE3 rE4 yE4); have rR0 := (hW0.cell hlR hneR).trans r0R0; have yR0 := (hW0.free hlR hneR).trans y0R0; have rR1 := (hW0.cell hlR hneR).trans r0R1; have yR1 := (hW0.free hlR hneR).trans y0R1; have rR2 := (hW0.cell hlR hneR).trans r0R2; have yR2 := (hW0.free hlR hneR).trans y0R2; have rR3 := (hW0.cell hlR hneR).trans r0R3; have yR3 := (hW0.free hlR hneR).trans y0R3; have rR4 := (hW0.cell hlR hneR).trans r0R4; have yR4 := (hW0.free hlR hneR).trans y0R4; have rE0 := (hW0.cell hlE hneE).trans r0E0; have yE0 := (hW0.free hlE hneE).trans y0E0; have rE1 := (hW0.cell hlE hneE).trans r0E1; have yE1 := (hW0.free hlE hneE).trans y0E1; have rE2 := (hW0.cell hlE hneE).trans r0E2; have yE2 := (hW0.free hlE hneE).trans y0E2; have rE3 := (hW0.cell hlE hneE).trans r0E3; have yE3 := (hW0.free hlE hneE).trans y0E3; have rE4 := (hW0.cell hlE hneE).trans r0E4; have yE4 := (hW0.free hlE hneE).trans y0E4) | (go_at_call 86; refine (among_any g n cp _ _ _ _ _ _ a _ (by first | exact hS | exact hS.ext ((Ext.refl _).alloc _) | exact hS.ext (((Ext.refl _).alloc _).alloc _) | exact hS.ext ((((Ext.refl _).alloc _).alloc _).alloc _)) (by first | exact hB | exact hB.ext ((Ext.refl _).alloc _) | exact hB.ext (((Ext.refl _).alloc _).alloc _) | exact hB.ext ((((Ext.refl _).alloc _).alloc _).alloc _)) (by omega) hn (by first | exact lit2 _ _ _ | exact lit3 _ _ _ _ | exact lit4 _ _ _ _ _ | exact lit5 _ _ _ _ _ _) (by omega) (by have := hS.lt; simp; omega)).mono ?_; rintro e w1 ⟨x, rfl, hS2, hW⟩; (first | replace hW0 := hW0.trans hW | replace hW0 := (hW0.trans (Wrote.alloc _ _ _)).trans hW | replace hW0 := ((hW0.trans (Wrote.alloc _ _ _)).trans (Wrote.alloc _ _ _)).trans hW | replace hW0 := (((hW0.trans (Wrote.alloc _ _ _)).trans (Wrote.alloc _ _ _)).trans (Wrote.alloc _ _ _)).trans hW); (first | replace hB := hB.wrote hW | replace hB := (hB.ext ((Ext.refl _).alloc _)).wrote hW | replace hB := (hB.ext (((Ext.refl _).alloc _).alloc _)).wrote hW | replace hB := (hB.ext ((((Ext.refl _).alloc _).alloc _).alloc _)).wrote hW); clear hS hW; have hS := hS2; clear hS2; (try clear rR0 yR0 rR1 yR1 rR2 yR2 rR3 yR3 rR4 yR4 rE0 yE0 rE1 yE1 rE2 yE2 rE3 yE3 rE4 yE4); have rR0 := (hW0.cell hlR hneR).trans r0R0; have yR0 := (hW0.free hlR hneR).trans y0R0; have rR1 := (hW0.cell hlR hneR).trans r0R1; have yR1 := (hW0.free hlR hneR).trans y0R1; have rR2 := (hW0.cell hlR hneR).trans r0R2; have yR2 := (hW0.free hlR hneR).trans y0R2; have rR3 := (hW0.cell hlR hneR).trans r0R3; have yR3 := (hW0.free hlR hneR).trans y0R3; have rR4 := (hW0.cell hlR hneR).trans r0R4; have yR4 := (hW0.free hlR hneR).trans y0R4; have rE0 := (hW0.cell hlE hneE).trans r0E0; have yE0 := (hW0.free hlE hneE).trans y0E0; have rE1 := (hW0.cell hlE hneE).trans r0E1; have yE1 := (hW0.free hlE hneE).trans y0E1; have rE2 := (hW0.cell hlE hneE).trans r0E2; have yE2 := (hW0.free hlE hneE).trans y0E2; have rE3 := (hW0.cell hlE hneE).trans r0E3; have yE3 := (hW0.free hlE hneE).trans y0E3; have rE4 := (hW0.cell hlE hneE).trans r0E4; have yE4 := (hW0.free hlE hneE).trans y0E4))
  all_goals refine bodyPost_ret (v := ?_) ?_ rfl ?_
  all_goals try (simp [results, Try.results62, go_sem, *]; rfl)
  all_goals exact ⟨⟨_, _, _, _, _, rfl⟩, by (repeat (refine Src.other ?_ (by simp; omega) _)); exact hS.more (by omega), by (repeat (refine Wrote.fresh ?_ (by simp; try omega) _)); exact hWV.trans hW0⟩
set_option maxHeartbeats 1000000 in
theorem l00Max_some (a b : Int) (w : World) : Calls Try.prog 90 #[.int .i64 a, .int .i64 b] w fun e w' => ∃ x, e = .returned (.int .i64 x) ∧ w = w' := by
  by_cases h : b < a
  · go_enter Try.func90, Try.ntmps90
    go_wp2_with fail
    go_ret
    first | exact ⟨_, rfl, rfl⟩ | rfl | simp
  · go_enter Try.func90, Try.ntmps90
    go_wp2_with fail
    go_ret
    first | exact ⟨_, rfl, rfl⟩ | rfl | simp
set_option maxRecDepth 100000 in
set_option maxHeartbeats 8000000 in
theorem drawBeat_any (z u i l m : Int) (g n cp k : Nat) (a : Option Addr) (w : World) (hS : Src w g a n cp k) (hB : RowB w g a n) (hk : k ≤ 700000) (hn : n ≤ 1048576) :
    Calls Try.prog 72 #[.pointer (some ⟨g, 0, none⟩), .agg #[.int .i64 z, .int .i64 u, .int .i64 i, .int .i64 l, .int .i64 m]] w fun e w' => (∃ v0 v1, e = .returned (.agg #[.int .i64 v0, .int .i64 v1])) ∧ Src w' g a n cp (k + 8) ∧ Wrote (some g) w w' := by
  have hlg := hS.lt
  go_enter Try.func72, Try.ntmps72
  go_upto_region 1 with fail
  generalize hW : World.alloc _ _ = W
  have xW : Ext w W := by rw [← hW]; exact ((Ext.refl _).alloc _).alloc _
  have hlE : w.heap.size < W.heap.size := by rw [← hW]; simp; try omega
  have hlR : w.heap.size + 1 < W.heap.size := by rw [← hW]; simp; try omega
  have hneE : some w.heap.size ≠ some g := fun e => by injection e; omega
  have hneR : some (w.heap.size + 1) ≠ some g := fun e => by injection e; omega
  have r0E0 : W.cell? ⟨w.heap.size, 0, none⟩ = some (.int .i64 z) := by rw [← hW]; simp [go_sem]
  have y0E0 : W.frozen? ⟨w.heap.size, 0, none⟩ = false := by rw [← hW]; simp [go_sem]
  have r0E1 : W.cell? ⟨w.heap.size, 1, none⟩ = some (.int .i64 u) := by rw [← hW]; simp [go_sem]
  have y0E1 : W.frozen? ⟨w.heap.size, 1, none⟩ = false := by rw [← hW]; simp [go_sem]
  have r0E2 : W.cell? ⟨w.heap.size, 2, none⟩ = some (.int .i64 i) := by rw [← hW]; simp [go_sem]
  have y0E2 : W.frozen? ⟨w.heap.size, 2, none⟩ = false := by rw [← hW]; simp [go_sem]
  have r0E3 : W.cell? ⟨w.heap.size, 3, none⟩ = some (.int .i64 l) := by rw [← hW]; simp [go_sem]
  have y0E3 : W.frozen? ⟨w.heap.size, 3, none⟩ = false := by rw [← hW]; simp [go_sem]
  have r0E4 : W.cell? ⟨w.heap.size, 4, none⟩ = some (.int .i64 m) := by rw [← hW]; simp [go_sem]
  have y0E4 : W.frozen? ⟨w.heap.size, 4, none⟩ = false := by rw [← hW]; simp [go_sem]
  have r0R0 : W.cell? ⟨w.heap.size + 1, 0, none⟩ = some (.int .i64 0) := by rw [← hW]; simp [go_sem]
  have y0R0 : W.frozen? ⟨w.heap.size + 1, 0, none⟩ = false := by rw [← hW]; simp [go_sem]
  have r0R1 : W.cell? ⟨w.heap.size + 1, 1, none⟩ = some (.int .i64 0) := by rw [← hW]; simp [go_sem]
  have y0R1 : W.frozen? ⟨w.heap.size + 1, 1, none⟩ = false := by rw [← hW]; simp [go_sem]
  clear hW
  replace hS := hS.ext xW
  replace hB := hB.ext xW
  have hW0 := Wrote.refl (some g) W
  have rE0 := r0E0
  have yE0 := y0E0
  have rE1 := r0E1
  have yE1 := y0E1
  have rE2 := r0E2
  have yE2 := y0E2
  have rE3 := r0E3
  have yE3 := y0E3
  have rE4 := r0E4
  have yE4 := y0E4
  have rR0 := r0R0
  have yR0 := y0R0
  have rR1 := r0R1
  have yR1 := y0R1
  go_wp2_with (first | (go_at_call 90; refine (l00Max_some _ _ _).mono ?_; rintro e w1 ⟨mx, rfl, rfl⟩) | (go_at_call 70; refine (pick_any g n cp _ _ a _ (by first | exact hS | exact hS.ext ((Ext.refl _).alloc _) | exact hS.ext (((Ext.refl _).alloc _).alloc _) | exact hS.ext ((((Ext.refl _).alloc _).alloc _).alloc _)) (by first | exact hB | exact hB.ext ((Ext.refl _).alloc _) | exact hB.ext (((Ext.refl _).alloc _).alloc _) | exact hB.ext ((((Ext.refl _).alloc _).alloc _).alloc _)) (by omega) hn).mono ?_; rintro e w1 ⟨x, rfl, hx, hS2, hW⟩; (first | replace hW0 := hW0.trans hW | replace hW0 := (hW0.trans (Wrote.alloc _ _ _)).trans hW | replace hW0 := ((hW0.trans (Wrote.alloc _ _ _)).trans (Wrote.alloc _ _ _)).trans hW | replace hW0 := (((hW0.trans (Wrote.alloc _ _ _)).trans (Wrote.alloc _ _ _)).trans (Wrote.alloc _ _ _)).trans hW); (first | replace hB := hB.wrote hW | replace hB := (hB.ext ((Ext.refl _).alloc _)).wrote hW | replace hB := (hB.ext (((Ext.refl _).alloc _).alloc _)).wrote hW | replace hB := (hB.ext ((((Ext.refl _).alloc _).alloc _).alloc _)).wrote hW); clear hS hW; have hS := hS2; clear hS2; (try clear rE0 yE0 rE1 yE1 rE2 yE2 rE3 yE3 rE4 yE4 rR0 yR0 rR1 yR1); have rE0 := (hW0.cell hlE hneE).trans r0E0; have yE0 := (hW0.free hlE hneE).trans y0E0; have rE1 := (hW0.cell hlE hneE).trans r0E1; have yE1 := (hW0.free hlE hneE).trans y0E1; have rE2 := (hW0.cell hlE hneE).trans r0E2; have yE2 := (hW0.free hlE hneE).trans y0E2; have rE3 := (hW0.cell hlE hneE).trans r0E3; have yE3 := (hW0.free hlE hneE).trans y0E3; have rE4 := (hW0.cell hlE hneE).trans r0E4; have yE4 := (hW0.free hlE hneE).trans y0E4; have rR0 := (hW0.cell hlR hneR).trans r0R0; have yR0 := (hW0.free hlR hneR).trans y0R0; have rR1 := (hW0.cell hlR hneR).trans r0R1; have yR1 := (hW0.free hlR hneR).trans y0R1) | (go_at_call 86; refine (among_any g n cp _ _ _ _ _ _ a _ (by first | exact hS | exact hS.ext ((Ext.refl _).alloc _) | exact hS.ext (((Ext.refl _).alloc _).alloc _) | exact hS.ext ((((Ext.refl _).alloc _).alloc _).alloc _)) (by first | exact hB | exact hB.ext ((Ext.refl _).alloc _) | exact hB.ext (((Ext.refl _).alloc _).alloc _) | exact hB.ext ((((Ext.refl _).alloc _).alloc _).alloc _)) (by omega) hn (by first | exact lit2 _ _ _ | exact lit3 _ _ _ _ | exact lit4 _ _ _ _ _ | exact lit5 _ _ _ _ _ _) (by omega) (by have := hS.lt; simp; omega)).mono ?_; rintro e w1 ⟨x, rfl, hS2, hW⟩; (first | replace hW0 := hW0.trans hW | replace hW0 := (hW0.trans (Wrote.alloc _ _ _)).trans hW | replace hW0 := ((hW0.trans (Wrote.alloc _ _ _)).trans (Wrote.alloc _ _ _)).trans hW | replace hW0 := (((hW0.trans (Wrote.alloc _ _ _)).trans (Wrote.alloc _ _ _)).trans (Wrote.alloc _ _ _)).trans hW); (first | replace hB := hB.wrote hW | replace hB := (hB.ext ((Ext.refl _).alloc _)).wrote hW | replace hB := (hB.ext (((Ext.refl _).alloc _).alloc _)).wrote hW | replace hB := (hB.ext ((((Ext.refl _).alloc _).alloc _).alloc _)).wrote hW); clear hS hW; have hS := hS2; clear hS2; (try clear rE0 yE0 rE1 yE1 rE2 yE2 rE3 yE3 rE4 yE4 rR0 yR0 rR1 yR1); have rE0 := (hW0.cell hlE hneE).trans r0E0; have yE0 := (hW0.free hlE hneE).trans y0E0; have rE1 := (hW0.cell hlE hneE).trans r0E1; have yE1 := (hW0.free hlE hneE).trans y0E1; have rE2 := (hW0.cell hlE hneE).trans r0E2; have yE2 := (hW0.free hlE hneE).trans y0E2; have rE3 := (hW0.cell hlE hneE).trans r0E3; have yE3 := (hW0.free hlE hneE).trans y0E3; have rE4 := (hW0.cell hlE hneE).trans r0E4; have yE4 := (hW0.free hlE hneE).trans y0E4; have rR0 := (hW0.cell hlR hneR).trans r0R0; have yR0 := (hW0.free hlR hneR).trans y0R0; have rR1 := (hW0.cell hlR hneR).trans r0R1; have yR1 := (hW0.free hlR hneR).trans y0R1))
  all_goals refine bodyPost_ret (v := ?_) ?_ rfl ?_
  all_goals try (simp [results, Try.results72, go_sem, *]; rfl)
  all_goals exact ⟨⟨_, _, rfl⟩, by (repeat (refine Src.other ?_ (by simp; omega) _)); exact hS.more (by omega), by (repeat (refine Wrote.fresh ?_ (by simp; try omega) _)); exact (Wrote.of_ext _ xW).trans hW0⟩
end Go.Proofs.Ytehebhphlaghfaa
