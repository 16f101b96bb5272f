/-
  Swings until the first that does not tick.
-/
import Derived.Test.YtehebhphlaghfaaSwPlain
import Derived.Test.YtehebhphlaghfaaAfter
namespace Go.Proofs.Ytehebhphlaghfaa
open Go.RowKit
set_option linter.unusedSimpArgs false
set_option linter.unusedVariables false

set_option maxHeartbeats 1000000 in
theorem silentAfter_any (z u i l m q n : Int) (N : Nat) (w : World) (hu : 1 ≤ u ∧ u ≤ 100000) (hi : 0 ≤ i ∧ i ≤ 100000) (hl : 0 ≤ l ∧ l ≤ 1000) (hm : 1 ≤ m ∧ m ≤ 100000) (hq : 0 ≤ q ∧ q ≤ 1000) (hn : 0 ≤ n ∧ n ≤ m) (hN : N ≤ 200000) :
    Calls Try.prog 68 #[.agg #[.int .i64 z, .int .i64 u, .int .i64 i, .int .i64 l, .int .i64 m], .int .i64 q, .int .i64 n, .int .i64 N] w fun e w' => e = .returned (.int .i64 (sil u i l m q N n)) ∧ Ext w w' := by
  go_enter Try.func68, Try.ntmps68
  go_wp2
  generalize hW : (w.alloc (Obj.cells #[.int .i64 z, .int .i64 u, .int .i64 i, .int .i64 l, .int .i64 m] 25)) = W
  have hE : Ext w W := by rw [← hW]; exact ((Ext.refl _).alloc _)
  have hl0 : w.heap.size < W.heap.size := by rw [← hW]; simp; try omega
  have f0_0 : W.cell? ⟨w.heap.size, 0, none⟩ = some (.int .i64 z) := by rw [← hW]; simp
  have f0_1 : W.cell? ⟨w.heap.size, 1, none⟩ = some (.int .i64 u) := by rw [← hW]; simp
  have f0_2 : W.cell? ⟨w.heap.size, 2, none⟩ = some (.int .i64 i) := by rw [← hW]; simp
  have f0_3 : W.cell? ⟨w.heap.size, 3, none⟩ = some (.int .i64 l) := by rw [← hW]; simp
  have f0_4 : W.cell? ⟨w.heap.size, 4, none⟩ = some (.int .i64 m) := by rw [← hW]; simp
  clear hW
  have x0 := Ext.refl W
  go_loopw [2, 9] (fun en kk wr => ∃ (x : Int) (j : Nat), en = .int .i64 x ∧ kk = .int .i64 j ∧ j ≤ N ∧ (0 ≤ x ∧ x ≤ m) ∧ Ext W wr ∧ Hid (sil u i l m q N n = j + sil u i l m q (N - j) x)) (fun _ kk _ => N - (intOf kk).toNat)
  case atStart => exact ⟨n, 0, rfl, rfl, by omega, hn, Ext.refl _, Lib.hid (by simp)⟩
  case round =>
    clear x0
    obtain ⟨x, j, rfl, rfl, hj, hx, x0, hs⟩ := hrel
    obtain ⟨xc, xf, xs⟩ := x0.cells
    by_cases hlt : j < N
    · obtain ⟨r, hr⟩ : ∃ r, N - j = r + 1 := ⟨N - j - 1, by omega⟩
      have hr2 : r = N - (j + 1) := by omega
      have hnx := swE_bd (u := u) (i := i) (l := l) (m := m) (q := q) (n := x) hu.1 hi.1 hl (by omega) hq.1 hx
      cases ht : swT u l q x
      · have e1 := Lib.hid (show (j : Int) = sil u i l m q N n by rw [hs.out, sil_stop ht]; omega)
        clear hr hr2
        go_wp2_with (go_at_call 65; refine (implswing_any z u i l m q x _ hu hi hl hm hq (by omega)).mono ?_; rintro e w1 ⟨rfl, x1⟩; (try clear xc xf xs); (first | replace x0 := x0.trans x1 | replace x0 := (x0.alloc _).trans x1 | replace x0 := (x0.drew).trans x1 | replace x0 := (x0.drew.alloc _).trans x1 | replace x0 := (x0.alloc _).drew.trans x1 | replace x0 := ((x0.alloc _).alloc _).trans x1 | have x0 := x1); clear x1; obtain ⟨xc, xf, xs⟩ := x0.cells)
        go_ret
        exact ⟨ret_int e1.out, hE.trans x0⟩
      · have e1 := Lib.hid (show sil u i l m q N n = ((j + 1 : Nat) : Int) + sil u i l m q (N - (j + 1)) (swE u i l m q x) by rw [hs.out, hr, sil_tick ht, hr2]; omega)
        clear hr hr2
        go_wp2_with (go_at_call 65; refine (implswing_any z u i l m q x _ hu hi hl hm hq (by omega)).mono ?_; rintro e w1 ⟨rfl, x1⟩; (try clear xc xf xs); (first | replace x0 := x0.trans x1 | replace x0 := (x0.alloc _).trans x1 | replace x0 := (x0.drew).trans x1 | replace x0 := (x0.drew.alloc _).trans x1 | replace x0 := (x0.alloc _).drew.trans x1 | replace x0 := ((x0.alloc _).alloc _).trans x1 | have x0 := x1); clear x1; obtain ⟨xc, xf, xs⟩ := x0.cells)
        go_roundw
        case rel => exact ⟨_, j + 1, rfl, by go_num, by omega, hnx, x0, e1.out⟩
        case measure => simp [intOf]; omega
    · have e1 := Lib.hid (show (j : Int) = sil u i l m q N n by rw [hs.out, show N - j = 0 by omega]; simp [sil])
      go_wp2
      go_ret
      exact ⟨ret_int e1.out, hE.trans x0⟩

set_option maxHeartbeats 1000000 in
theorem l11All_any (z u i l m q n : Int) (N : Nat) (w : World) (hu : 1 ≤ u ∧ u ≤ 100000) (hi : 0 ≤ i ∧ i ≤ 100000) (hl : 0 ≤ l ∧ l ≤ 1000) (hm : 1 ≤ m ∧ m ≤ 100000) (hq : 0 ≤ q ∧ q ≤ 1000) (hn : 0 ≤ n ∧ n ≤ m) (hN : N ≤ 200000) :
    Calls Try.prog 77 #[.agg #[.int .i64 z, .int .i64 u, .int .i64 i, .int .i64 l, .int .i64 m], .int .i64 q, .int .i64 N, .int .i64 n] w fun e w' => e = .returned (.bool (sil u i l m q N n == N)) ∧ Ext w w' := by
  go_enter Try.func77, Try.ntmps77
  go_wp2
  generalize hW : (w.alloc (Obj.cells #[.int .i64 z, .int .i64 u, .int .i64 i, .int .i64 l, .int .i64 m] 25)) = W
  have hE : Ext w W := by rw [← hW]; exact ((Ext.refl _).alloc _)
  have hl0 : w.heap.size < W.heap.size := by rw [← hW]; simp; try omega
  have f0_0 : W.cell? ⟨w.heap.size, 0, none⟩ = some (.int .i64 z) := by rw [← hW]; simp
  have f0_1 : W.cell? ⟨w.heap.size, 1, none⟩ = some (.int .i64 u) := by rw [← hW]; simp
  have f0_2 : W.cell? ⟨w.heap.size, 2, none⟩ = some (.int .i64 i) := by rw [← hW]; simp
  have f0_3 : W.cell? ⟨w.heap.size, 3, none⟩ = some (.int .i64 l) := by rw [← hW]; simp
  have f0_4 : W.cell? ⟨w.heap.size, 4, none⟩ = some (.int .i64 m) := by rw [← hW]; simp
  clear hW
  have x0 := Ext.refl W
  go_loopw [3, 9] (fun en kk wr => ∃ (x : Int) (j : Nat), en = .int .i64 x ∧ kk = .int .i64 j ∧ j ≤ N ∧ (0 ≤ x ∧ x ≤ m) ∧ Ext W wr ∧ Hid (sil u i l m q N n = j + sil u i l m q (N - j) x)) (fun _ kk _ => N - (intOf kk).toNat)
  case atStart => exact ⟨n, 0, rfl, rfl, by omega, hn, Ext.refl _, Lib.hid (by simp)⟩
  case round =>
    clear x0
    obtain ⟨x, j, rfl, rfl, hj, hx, x0, hs⟩ := hrel
    obtain ⟨xc, xf, xs⟩ := x0.cells
    by_cases hlt : j < N
    · obtain ⟨r, hr⟩ : ∃ r, N - j = r + 1 := ⟨N - j - 1, by omega⟩
      have hr2 : r = N - (j + 1) := by omega
      have hnx := swE_bd (u := u) (i := i) (l := l) (m := m) (q := q) (n := x) hu.1 hi.1 hl (by omega) hq.1 hx
      cases ht : swT u l q x
      · have e1 := Lib.hid (show false = (sil u i l m q N n == N) by rw [hs.out, sil_stop ht]; simp; omega)
        clear hr hr2
        go_wp2_with (go_at_call 67; refine (l11Swing_any z u i l m q x _ hu hi hl hm hq (by omega)).mono ?_; rintro e w1 ⟨rfl, x1⟩; (try clear xc xf xs); (first | replace x0 := x0.trans x1 | replace x0 := (x0.alloc _).trans x1 | replace x0 := (x0.drew).trans x1 | replace x0 := (x0.drew.alloc _).trans x1 | replace x0 := (x0.alloc _).drew.trans x1 | replace x0 := ((x0.alloc _).alloc _).trans x1 | have x0 := x1); clear x1; obtain ⟨xc, xf, xs⟩ := x0.cells)
        go_ret
        exact ⟨ret_bool e1.out, hE.trans x0⟩
      · have e1 := Lib.hid (show sil u i l m q N n = ((j + 1 : Nat) : Int) + sil u i l m q (N - (j + 1)) (swE u i l m q x) by rw [hs.out, hr, sil_tick ht, hr2]; omega)
        clear hr hr2
        go_wp2_with (go_at_call 67; refine (l11Swing_any z u i l m q x _ hu hi hl hm hq (by omega)).mono ?_; rintro e w1 ⟨rfl, x1⟩; (try clear xc xf xs); (first | replace x0 := x0.trans x1 | replace x0 := (x0.alloc _).trans x1 | replace x0 := (x0.drew).trans x1 | replace x0 := (x0.drew.alloc _).trans x1 | replace x0 := (x0.alloc _).drew.trans x1 | replace x0 := ((x0.alloc _).alloc _).trans x1 | have x0 := x1); clear x1; obtain ⟨xc, xf, xs⟩ := x0.cells)
        go_roundw
        case rel => exact ⟨_, j + 1, rfl, by go_num, by omega, hnx, x0, e1.out⟩
        case measure => simp [intOf]; omega
    · have e1 := Lib.hid (show true = (sil u i l m q N n == N) by rw [hs.out, show N - j = 0 by omega]; simp [sil]; omega)
      go_wp2
      go_ret
      exact ⟨ret_bool e1.out, hE.trans x0⟩

end Go.Proofs.Ytehebhphlaghfaa
