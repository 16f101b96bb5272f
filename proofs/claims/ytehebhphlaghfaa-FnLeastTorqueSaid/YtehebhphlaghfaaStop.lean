/-
  When an escapement stops: the two functions, and the walk of their law.
-/
import Derived.Test.YtehebhphlaghfaaSilent
import Derived.Test.YtehebhphlaghfaaSwingB
namespace Go.Proofs.Ytehebhphlaghfaa
open Go.RowKit
set_option linter.unusedSimpArgs false
set_option linter.unusedVariables false

def soR (z u i l m q n k : Int) : Int := if cdE z u i l m q n k = 0 then (if sil u i l m q (m + 2).toNat n = m + 2 then 0 else sil u i l m q (m + 2).toNat n) else 0
def soC (z u i l m q n k : Int) : Int := if cdE z u i l m q n k = 0 then (if sil u i l m q (m + 2).toNat n = m + 2 then 3 else 0) else cdE z u i l m q n k

theorem silentAfter_int (z u i l m q n N : Int) (w : World) (hu : 1 ≤ u ∧ u ≤ 100000) (hi : 0 ≤ i ∧ i ≤ 100000) (hl : 0 ≤ l ∧ l ≤ 1000) (hm : 1 ≤ m ∧ m ≤ 100000) (hq : 0 ≤ q ∧ q ≤ 1000) (hn : 0 ≤ n ∧ n ≤ m) (hN : 0 ≤ N ∧ N ≤ 200000) :
    Calls Try.prog 68 #[.agg #[.int .i64 z, .int .i64 u, .int .i64 i, .int .i64 l, .int .i64 m], .int .i64 q, .int .i64 n, .int .i64 N] w fun e w' => e = .returned (.int .i64 (sil u i l m q N.toNat n)) ∧ Ext w w' := by
  obtain ⟨N, rfl⟩ := Int.eq_ofNat_of_zero_le hN.1
  exact silentAfter_any z u i l m q n N w hu hi hl hm hq hn (by omega)

set_option maxHeartbeats 1000000 in
theorem implStopAfter_any (z u i l m q n k : Int) (w : World) :
    Calls Try.prog 28 #[.agg #[.int .i64 z, .int .i64 u, .int .i64 i, .int .i64 l, .int .i64 m], .int .i64 q, .agg #[.int .i64 n, .int .i64 k]] w fun e w' => e = .returned (.tuple #[.int .i64 (soR z u i l m q n k), .int .i64 (soC z u i l m q n k)]) ∧ Ext w w' := by
  cases h1 : vBeat z u i l m n k
  · have hc : cdE z u i l m q n k = 1 := by simp [cdE, h1]
    have e1 := Lib.hid (show 0 = soR z u i l m q n k by simp [soR, hc])
    have e2 := Lib.hid (show 1 = soC z u i l m q n k by simp [soC, hc])
    clear hc
    go_enter Try.func28, Try.ntmps28
    go_wp2_with (first | (go_at_call 23; refine (implValidBeat_any z u i l m n k _).mono ?_; rintro e w1 ⟨rfl, x1⟩; (try clear xc xf xs); (first | replace x0 := x0.trans x1 | replace x0 := (x0.alloc _).trans x1 | replace x0 := (x0.drew).trans x1 | replace x0 := (x0.drew.alloc _).trans x1 | replace x0 := (x0.alloc _).drew.trans x1 | replace x0 := ((x0.alloc _).alloc _).trans x1 | have x0 := x1); clear x1; obtain ⟨xc, xf, xs⟩ := x0.cells))
    go_ret2
    exact ⟨ret2 e1.out e2.out, (((Ext.refl _).alloc _).alloc _).trans x0⟩
  · cases h2 : inB q 0 1000
    · have hc : cdE z u i l m q n k = 2 := by simp [cdE, h1, h2]
      have e1 := Lib.hid (show 0 = soR z u i l m q n k by simp [soR, hc])
      have e2 := Lib.hid (show 2 = soC z u i l m q n k by simp [soC, hc])
      clear hc
      go_enter Try.func28, Try.ntmps28
      go_wp2_with (first | (go_at_call 23; refine (implValidBeat_any z u i l m n k _).mono ?_; rintro e w1 ⟨rfl, x1⟩; (try clear xc xf xs); (first | replace x0 := x0.trans x1 | replace x0 := (x0.alloc _).trans x1 | replace x0 := (x0.drew).trans x1 | replace x0 := (x0.drew.alloc _).trans x1 | replace x0 := (x0.alloc _).drew.trans x1 | replace x0 := ((x0.alloc _).alloc _).trans x1 | have x0 := x1); clear x1; obtain ⟨xc, xf, xs⟩ := x0.cells) | (go_at_call 64; refine (isTorque_any _ _).mono ?_; rintro e w1 ⟨rfl, rfl⟩))
      go_ret2
      exact ⟨ret2 e1.out e2.out, (((Ext.refl _).alloc _).alloc _).trans x0⟩
    · have hc : cdE z u i l m q n k = 0 := by simp [cdE, h1, h2]
      obtain ⟨ev, ⟨hn0, hk⟩, hq⟩ := cdE_ok hc
      have hu := ev.bu; have hi := ev.bi; have hl := ev.bl
      have hm : 1 ≤ m ∧ m ≤ 100000 := by have := ev.bm; omega
      clear ev
      by_cases hs : sil u i l m q (m + 2).toNat n = m + 2
      · have e1 := Lib.hid (show 0 = soR z u i l m q n k by simp [soR, hc, hs])
        have e2 := Lib.hid (show 3 = soC z u i l m q n k by simp [soC, hc, hs])
        have f1 : (sil u i l m q (m + 2).toNat n == m + 2) = true := by simpa using hs
        clear hc hs
        go_enter Try.func28, Try.ntmps28
        go_wp2_with (first | (go_at_call 23; refine (implValidBeat_any z u i l m n k _).mono ?_; rintro e w1 ⟨rfl, x1⟩; (try clear xc xf xs); (first | replace x0 := x0.trans x1 | replace x0 := (x0.alloc _).trans x1 | replace x0 := (x0.drew).trans x1 | replace x0 := (x0.drew.alloc _).trans x1 | replace x0 := (x0.alloc _).drew.trans x1 | replace x0 := ((x0.alloc _).alloc _).trans x1 | have x0 := x1); clear x1; obtain ⟨xc, xf, xs⟩ := x0.cells) | (go_at_call 64; refine (isTorque_any _ _).mono ?_; rintro e w1 ⟨rfl, rfl⟩) | (go_at_call 68; refine (silentAfter_int z u i l m q n (m + 2) _ hu hi hl hm hq hn0 (by omega)).mono ?_; rintro e w1 ⟨rfl, x1⟩; (try clear xc xf xs); (first | replace x0 := x0.trans x1 | replace x0 := (x0.alloc _).trans x1 | replace x0 := (x0.drew).trans x1 | replace x0 := (x0.drew.alloc _).trans x1 | replace x0 := (x0.alloc _).drew.trans x1 | replace x0 := ((x0.alloc _).alloc _).trans x1 | have x0 := x1); clear x1; obtain ⟨xc, xf, xs⟩ := x0.cells))
        go_ret2
        exact ⟨ret2 e1.out e2.out, (((Ext.refl _).alloc _).alloc _).trans x0⟩
      · have e1 := Lib.hid (show sil u i l m q (m + 2).toNat n = soR z u i l m q n k by simp [soR, hc, hs])
        have e2 := Lib.hid (show 0 = soC z u i l m q n k by simp [soC, hc, hs])
        have f1 : (sil u i l m q (m + 2).toNat n == m + 2) = false := by simpa using hs
        clear hc hs
        go_enter Try.func28, Try.ntmps28
        go_wp2_with (first | (go_at_call 23; refine (implValidBeat_any z u i l m n k _).mono ?_; rintro e w1 ⟨rfl, x1⟩; (try clear xc xf xs); (first | replace x0 := x0.trans x1 | replace x0 := (x0.alloc _).trans x1 | replace x0 := (x0.drew).trans x1 | replace x0 := (x0.drew.alloc _).trans x1 | replace x0 := (x0.alloc _).drew.trans x1 | replace x0 := ((x0.alloc _).alloc _).trans x1 | have x0 := x1); clear x1; obtain ⟨xc, xf, xs⟩ := x0.cells) | (go_at_call 64; refine (isTorque_any _ _).mono ?_; rintro e w1 ⟨rfl, rfl⟩) | (go_at_call 68; refine (silentAfter_int z u i l m q n (m + 2) _ hu hi hl hm hq hn0 (by omega)).mono ?_; rintro e w1 ⟨rfl, x1⟩; (try clear xc xf xs); (first | replace x0 := x0.trans x1 | replace x0 := (x0.alloc _).trans x1 | replace x0 := (x0.drew).trans x1 | replace x0 := (x0.drew.alloc _).trans x1 | replace x0 := (x0.alloc _).drew.trans x1 | replace x0 := ((x0.alloc _).alloc _).trans x1 | have x0 := x1); clear x1; obtain ⟨xc, xf, xs⟩ := x0.cells))
        go_ret2
        exact ⟨ret2 e1.out e2.out, (((Ext.refl _).alloc _).alloc _).trans x0⟩

set_option maxHeartbeats 2000000 in
theorem specStopAfter_any (z u i l m q n k : Int) (w : World) :
    Calls Try.prog 36 #[.agg #[.int .i64 z, .int .i64 u, .int .i64 i, .int .i64 l, .int .i64 m], .int .i64 q, .agg #[.int .i64 n, .int .i64 k]] w fun e w' => e = .returned (.tuple #[.int .i64 (soR z u i l m q n k), .int .i64 (soC z u i l m q n k)]) ∧ Ext w w' := by
  by_cases hc : cdE z u i l m q n k = 0
  · obtain ⟨ev, ⟨hn0, hk⟩, hq⟩ := cdE_ok hc
    have hu := ev.bu; have hi := ev.bi; have hl := ev.bl
    have hm : 1 ≤ m ∧ m ≤ 100000 := by have := ev.bm; omega
    have f0 : (cdE z u i l m q n k != 0) = false := by rw [hc]; rfl
    have g1 := Lib.hid (show soR z u i l m q n k = if sil u i l m q (m + 2).toNat n = m + 2 then 0 else sil u i l m q (m + 2).toNat n by simp [soR, hc])
    have g2 := Lib.hid (show soC z u i l m q n k = if sil u i l m q (m + 2).toNat n = m + 2 then 3 else 0 by simp [soC, hc])
    have H := Lib.hid hc
    clear ev hc
    obtain ⟨d, hd⟩ := way_start u i l m q n
    have HD := Lib.hid hd
    clear hd
    go_enter Try.func36, Try.ntmps36
    go_wp2_with fail
    generalize hW : ((w.alloc (Obj.cells #[.int .i64 z, .int .i64 u, .int .i64 i, .int .i64 l, .int .i64 m] 25)).alloc (Obj.cells #[.int .i64 n, .int .i64 k] 31)) = W
    have hE : Ext w W := by rw [← hW]; exact (((Ext.refl _).alloc _).alloc _)
    have hl0 : w.heap.size < W.heap.size := by rw [← hW]; simp; try omega
    have hl1 : w.heap.size + 1 < W.heap.size := by rw [← hW]; simp; try omega
    have f0_0 : W.cell? ⟨w.heap.size, 0, none⟩ = some (.int .i64 z) := by rw [← hW]; simp
    have f0_1 : W.cell? ⟨w.heap.size, 1, none⟩ = some (.int .i64 u) := by rw [← hW]; simp
    have f0_2 : W.cell? ⟨w.heap.size, 2, none⟩ = some (.int .i64 i) := by rw [← hW]; simp
    have f0_3 : W.cell? ⟨w.heap.size, 3, none⟩ = some (.int .i64 l) := by rw [← hW]; simp
    have f0_4 : W.cell? ⟨w.heap.size, 4, none⟩ = some (.int .i64 m) := by rw [← hW]; simp
    have f1_0 : W.cell? ⟨w.heap.size + 1, 0, none⟩ = some (.int .i64 n) := by rw [← hW]; simp
    have f1_1 : W.cell? ⟨w.heap.size + 1, 1, none⟩ = some (.int .i64 k) := by rw [← hW]; simp
    clear hW
    have x0 := Ext.refl W
    go_wp2_with (go_at_call 73; refine (l11Code_any z u i l m q n k _).mono ?_; rintro e w1 ⟨rfl, x1⟩; (try clear xc xf xs); (first | replace x0 := x0.trans x1 | replace x0 := (x0.alloc _).trans x1 | replace x0 := (x0.drew).trans x1 | replace x0 := (x0.drew.alloc _).trans x1 | replace x0 := (x0.alloc _).drew.trans x1 | replace x0 := ((x0.alloc _).alloc _).trans x1 | have x0 := x1); clear x1; obtain ⟨xc, xf, xs⟩ := x0.cells)
    go_loopw [9, 10] (fun en kk wr => ∃ (x : Int) (j : Nat), en = .int .i64 x ∧ kk = .int .i64 j ∧ (0 ≤ x ∧ x ≤ m) ∧ Ext W wr ∧ Hid (Way d u i l m q n j x) ∧ Hid (sil u i l m q (m + 2).toNat n = j + sil u i l m q ((m + 2).toNat - j) x)) (fun en _ _ => wayMu d m (intOf en))
    case atStart => exact ⟨n, 0, rfl, rfl, hn0, x0, HD, Lib.hid (by simp)⟩
    case round =>
      clear x0 xc xf xs HD
      obtain ⟨x, j, rfl, rfl, hx, x0, hw, hs⟩ := hrel
      obtain ⟨xc, xf, xs⟩ := x0.cells
      have hj := way_bd hn0 hx hw.out
      have hnx := swE_bd (u := u) (i := i) (l := l) (m := m) (q := q) (n := x) hu.1 hi.1 hl (by omega) hq.1 hx
      cases ht : swT u l q x
      · have hv : sil u i l m q (m + 2).toNat n = (j : Int) := by rw [hs.out, sil_stop ht]; omega
        have e1 := Lib.hid (show (j : Int) = soR z u i l m q n k by rw [g1.out, hv, if_neg (by omega)])
        have e2 := Lib.hid (show 0 = soC z u i l m q n k by rw [g2.out, hv, if_neg (by omega)])
        clear hv
        go_wp2_with (go_at_call 67; refine (l11Swing_any z u i l m q x _ hu hi hl hm hq (by omega)).mono ?_; rintro e w1 ⟨rfl, x1⟩; (try clear xc xf xs); (first | replace x0 := x0.trans x1 | replace x0 := (x0.alloc _).trans x1 | replace x0 := (x0.drew).trans x1 | replace x0 := (x0.drew.alloc _).trans x1 | replace x0 := (x0.alloc _).drew.trans x1 | replace x0 := ((x0.alloc _).alloc _).trans x1 | have x0 := x1); clear x1; obtain ⟨xc, xf, xs⟩ := x0.cells)
        go_ret2
        exact ⟨ret2 e1.out e2.out, hE.trans x0⟩
      · by_cases hf : swE u i l m q x = x
        · have hv : sil u i l m q (m + 2).toNat n = m + 2 := by rw [hs.out, sil_fix ht hf]; omega
          have e1 := Lib.hid (show 0 = soR z u i l m q n k by rw [g1.out, hv, if_pos rfl])
          have e2 := Lib.hid (show 3 = soC z u i l m q n k by rw [g2.out, hv, if_pos rfl])
          have f1 : (swE u i l m q x == x) = true := by simpa using hf
          clear hv hf
          go_wp2_with (go_at_call 67; refine (l11Swing_any z u i l m q x _ hu hi hl hm hq (by omega)).mono ?_; rintro e w1 ⟨rfl, x1⟩; (try clear xc xf xs); (first | replace x0 := x0.trans x1 | replace x0 := (x0.alloc _).trans x1 | replace x0 := (x0.drew).trans x1 | replace x0 := (x0.drew.alloc _).trans x1 | replace x0 := (x0.alloc _).drew.trans x1 | replace x0 := ((x0.alloc _).alloc _).trans x1 | have x0 := x1); clear x1; obtain ⟨xc, xf, xs⟩ := x0.cells)
          go_ret2
          exact ⟨ret2 e1.out e2.out, hE.trans x0⟩
        · have f1 : (swE u i l m q x == x) = false := by simpa using hf
          have hst := Lib.hid (way_step hl hx hnx hw.out ht hf)
          have hv := Lib.hid (show sil u i l m q (m + 2).toNat n = ((j + 1 : Nat) : Int) + sil u i l m q ((m + 2).toNat - (j + 1)) (swE u i l m q x) by
            rw [hs.out, show (m + 2).toNat - j = ((m + 2).toNat - (j + 1)) + 1 by omega, sil_tick ht]; omega)
          clear hf
          go_wp2_with (go_at_call 67; refine (l11Swing_any z u i l m q x _ hu hi hl hm hq (by omega)).mono ?_; rintro e w1 ⟨rfl, x1⟩; (try clear xc xf xs); (first | replace x0 := x0.trans x1 | replace x0 := (x0.alloc _).trans x1 | replace x0 := (x0.drew).trans x1 | replace x0 := (x0.drew.alloc _).trans x1 | replace x0 := (x0.alloc _).drew.trans x1 | replace x0 := ((x0.alloc _).alloc _).trans x1 | have x0 := x1); clear x1; obtain ⟨xc, xf, xs⟩ := x0.cells)
          go_roundw
          case rel => exact ⟨_, j + 1, rfl, by go_num, hnx, x0, hst.out.1, hv.out⟩
          case measure => exact hst.out.2
  · have f0 : (cdE z u i l m q n k != 0) = true := by simpa using hc
    have e1 := Lib.hid (show 0 = soR z u i l m q n k by simp [soR, hc])
    have e2 := Lib.hid (show cdE z u i l m q n k = soC z u i l m q n k by simp [soC, hc])
    clear hc
    go_enter Try.func36, Try.ntmps36
    go_wp2_with (first | (go_at_call 73; refine (l11Code_any z u i l m q n k _).mono ?_; rintro e w1 ⟨rfl, x1⟩; (try clear xc xf xs); (first | replace x0 := x0.trans x1 | replace x0 := (x0.alloc _).trans x1 | replace x0 := (x0.drew).trans x1 | replace x0 := (x0.drew.alloc _).trans x1 | replace x0 := (x0.alloc _).drew.trans x1 | replace x0 := ((x0.alloc _).alloc _).trans x1 | have x0 := x1); clear x1; obtain ⟨xc, xf, xs⟩ := x0.cells))
    go_ret2
    exact ⟨ret2 e1.out e2.out, (((Ext.refl _).alloc _).alloc _).trans x0⟩

set_option maxHeartbeats 2000000 in
theorem stopAfter_walk (z u i l m q n k : Int) (w : World) (b0 : -9223372036854775808 ≤ z ∧ z ≤ 9223372036854775807) (b1 : -9223372036854775808 ≤ u ∧ u ≤ 9223372036854775807) (b2 : -9223372036854775808 ≤ i ∧ i ≤ 9223372036854775807) (b3 : -9223372036854775808 ≤ l ∧ l ≤ 9223372036854775807) (b4 : -9223372036854775808 ≤ m ∧ m ≤ 9223372036854775807) (b5 : -9223372036854775808 ≤ q ∧ q ≤ 9223372036854775807) (b6 : -9223372036854775808 ≤ n ∧ n ≤ 9223372036854775807) (b7 : -9223372036854775808 ≤ k ∧ k ≤ 9223372036854775807) :
    Calls Try.prog 8 #[.agg #[.int .i64 z, .int .i64 u, .int .i64 i, .int .i64 l, .int .i64 m], .int .i64 q, .agg #[.int .i64 n, .int .i64 k]] w fun e w' => e = .returned (.bool true) ∧ Ext w w' := by
  clear b0 b1 b2 b3 b4 b5 b6 b7
  go_enter Try.func8, Try.ntmps8
  go_wp2
  generalize hW : ((w.alloc (Obj.cells #[.int .i64 z, .int .i64 u, .int .i64 i, .int .i64 l, .int .i64 m] 23)).alloc (Obj.cells #[.int .i64 n, .int .i64 k] 29)) = W
  have hE : Ext w W := by rw [← hW]; exact (((Ext.refl _).alloc _).alloc _)
  have hl0 : w.heap.size < W.heap.size := by rw [← hW]; simp; try omega
  have hl1 : w.heap.size + 1 < W.heap.size := by rw [← hW]; simp; try omega
  have f0_0 : W.cell? ⟨w.heap.size, 0, none⟩ = some (.int .i64 z) := by rw [← hW]; simp
  have f0_1 : W.cell? ⟨w.heap.size, 1, none⟩ = some (.int .i64 u) := by rw [← hW]; simp
  have f0_2 : W.cell? ⟨w.heap.size, 2, none⟩ = some (.int .i64 i) := by rw [← hW]; simp
  have f0_3 : W.cell? ⟨w.heap.size, 3, none⟩ = some (.int .i64 l) := by rw [← hW]; simp
  have f0_4 : W.cell? ⟨w.heap.size, 4, none⟩ = some (.int .i64 m) := by rw [← hW]; simp
  have f1_0 : W.cell? ⟨w.heap.size + 1, 0, none⟩ = some (.int .i64 n) := by rw [← hW]; simp
  have f1_1 : W.cell? ⟨w.heap.size + 1, 1, none⟩ = some (.int .i64 k) := by rw [← hW]; simp
  clear hW
  have x0 := Ext.refl W
  go_region_held3 (fun w' => w'.cell? ⟨w.heap.size, 0, none⟩ = some (.int .i64 z) ∧ w'.cell? ⟨w.heap.size, 1, none⟩ = some (.int .i64 u) ∧ w'.cell? ⟨w.heap.size, 2, none⟩ = some (.int .i64 i) ∧ w'.cell? ⟨w.heap.size, 3, none⟩ = some (.int .i64 l) ∧ w'.cell? ⟨w.heap.size, 4, none⟩ = some (.int .i64 m) ∧ w'.cell? ⟨w.heap.size + 1, 0, none⟩ = some (.int .i64 n) ∧ w'.cell? ⟨w.heap.size + 1, 1, none⟩ = some (.int .i64 k))
    (first | (refine ⟨?_, ?_, ?_, ?_, ?_, ?_, ?_⟩ <;> (refine (xc _ _ ?_).trans ?_ <;> assumption)) | (refine ⟨?_, ?_, ?_, ?_, ?_, ?_, ?_⟩ <;> assumption) | go_keep)
    (first | (go_at_call 19; refine (toEscapement_any _ _ _ _ _ _).mono ?_; rintro e w1 ⟨rfl, x1⟩; (try clear xc xf xs); (first | replace x0 := x0.trans x1 | replace x0 := (x0.alloc _).trans x1 | replace x0 := (x0.drew).trans x1 | replace x0 := (x0.drew.alloc _).trans x1 | replace x0 := (x0.alloc _).drew.trans x1 | replace x0 := ((x0.alloc _).alloc _).trans x1 | have x0 := x1); clear x1; obtain ⟨xc, xf, xs⟩ := x0.cells) | (go_at_call 22; refine (toBeat_any _ _ _).mono ?_; rintro e w1 ⟨rfl, x1⟩; (try clear xc xf xs); (first | replace x0 := x0.trans x1 | replace x0 := (x0.alloc _).trans x1 | replace x0 := (x0.drew).trans x1 | replace x0 := (x0.drew.alloc _).trans x1 | replace x0 := (x0.alloc _).drew.trans x1 | replace x0 := ((x0.alloc _).alloc _).trans x1 | have x0 := x1); clear x1; obtain ⟨xc, xf, xs⟩ := x0.cells) | (go_at_call 36; refine (specStopAfter_any z u i l m q n k _).mono ?_; rintro e w1 ⟨rfl, x1⟩; (try clear xc xf xs); (first | replace x0 := x0.trans x1 | replace x0 := (x0.alloc _).trans x1 | replace x0 := (x0.drew).trans x1 | replace x0 := (x0.drew.alloc _).trans x1 | replace x0 := (x0.alloc _).drew.trans x1 | replace x0 := ((x0.alloc _).alloc _).trans x1 | have x0 := x1); clear x1; obtain ⟨xc, xf, xs⟩ := x0.cells))
  go_wp2
  go_region_held3 (fun w' => w'.cell? ⟨w.heap.size, 0, none⟩ = some (.int .i64 z) ∧ w'.cell? ⟨w.heap.size, 1, none⟩ = some (.int .i64 u) ∧ w'.cell? ⟨w.heap.size, 2, none⟩ = some (.int .i64 i) ∧ w'.cell? ⟨w.heap.size, 3, none⟩ = some (.int .i64 l) ∧ w'.cell? ⟨w.heap.size, 4, none⟩ = some (.int .i64 m) ∧ w'.cell? ⟨w.heap.size + 1, 0, none⟩ = some (.int .i64 n) ∧ w'.cell? ⟨w.heap.size + 1, 1, none⟩ = some (.int .i64 k))
    (first | (refine ⟨?_, ?_, ?_, ?_, ?_, ?_, ?_⟩ <;> (refine (xc _ _ ?_).trans ?_ <;> assumption)) | (refine ⟨?_, ?_, ?_, ?_, ?_, ?_, ?_⟩ <;> assumption) | go_keep)
    (first | (go_at_call 19; refine (toEscapement_any _ _ _ _ _ _).mono ?_; rintro e w1 ⟨rfl, x1⟩; (try clear xc xf xs); (first | replace x0 := x0.trans x1 | replace x0 := (x0.alloc _).trans x1 | replace x0 := (x0.drew).trans x1 | replace x0 := (x0.drew.alloc _).trans x1 | replace x0 := (x0.alloc _).drew.trans x1 | replace x0 := ((x0.alloc _).alloc _).trans x1 | have x0 := x1); clear x1; obtain ⟨xc, xf, xs⟩ := x0.cells) | (go_at_call 22; refine (toBeat_any _ _ _).mono ?_; rintro e w1 ⟨rfl, x1⟩; (try clear xc xf xs); (first | replace x0 := x0.trans x1 | replace x0 := (x0.alloc _).trans x1 | replace x0 := (x0.drew).trans x1 | replace x0 := (x0.drew.alloc _).trans x1 | replace x0 := (x0.alloc _).drew.trans x1 | replace x0 := ((x0.alloc _).alloc _).trans x1 | have x0 := x1); clear x1; obtain ⟨xc, xf, xs⟩ := x0.cells) | (go_at_call 28; refine (implStopAfter_any z u i l m q n k _).mono ?_; rintro e w1 ⟨rfl, x1⟩; (try clear xc xf xs); (first | replace x0 := x0.trans x1 | replace x0 := (x0.alloc _).trans x1 | replace x0 := (x0.drew).trans x1 | replace x0 := (x0.drew.alloc _).trans x1 | replace x0 := (x0.alloc _).drew.trans x1 | replace x0 := ((x0.alloc _).alloc _).trans x1 | have x0 := x1); clear x1; obtain ⟨xc, xf, xs⟩ := x0.cells))
  go_wp2
  go_ret
  exact ⟨rfl, hE.trans x0⟩

end Go.Proofs.Ytehebhphlaghfaa
