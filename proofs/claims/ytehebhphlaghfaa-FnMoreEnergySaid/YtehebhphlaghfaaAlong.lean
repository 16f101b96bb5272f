/-
  Swings along a row of torques.
-/
import Derived.Test.YtehebhphlaghfaaAlongP
import Derived.Test.YtehebhphlaghfaaMany
import Derived.Test.YtehebhphlaghfaaRow1
import Derived.Deep.DeepCutAuto
namespace Go.Proofs.Ytehebhphlaghfaa
open Go.RowKit
set_option linter.unusedSimpArgs false
set_option linter.unusedVariables false

theorem al3 {a b c d x y : Int} {v : Value} (h : a = b) (k : c = d) (m : x = y) :
    Ending.returned (.tuple #[.agg #[.int .i64 a, .int .i64 c], v, .int .i64 x]) = .returned (.tuple #[.agg #[.int .i64 b, .int .i64 d], v, .int .i64 y]) := by rw [h, k, m]

set_option maxHeartbeats 16000000 in
theorem implSwingAlong_any (z u i l m n k : Int) (a : Option Addr) (N c : Nat) (qs : List Int) (w : World) (hr : Row1 w a qs) (hn : qs.length = N) (hN : N ≤ 1048576) :
    Calls Try.prog 33 #[.agg #[.int .i64 z, .int .i64 u, .int .i64 i, .int .i64 l, .int .i64 m], .slice a N c, .agg #[.int .i64 n, .int .i64 k]] w fun e w' => ∃ v, e = .returned (.tuple #[.agg #[.int .i64 (alE z u i l m qs n k), .int .i64 (alK z u i l m qs n k)], v, .int .i64 (alC z u i l m qs n k)]) ∧ IntsOf w' w.heap.size v (alM z u i l m qs n k) ∧ Ext w w' := by
  cases h1 : vBeat z u i l m n k
  · have hc : cdA z u i l m qs n k = 1 := by simp [cdA, h1]
    have e1 := Lib.hid (show 0 = alE z u i l m qs n k by simp [alE, hc])
    have e2 := Lib.hid (show 0 = alK z u i l m qs n k by simp [alK, hc])
    have e3 := Lib.hid (show [] = alM z u i l m qs n k by simp [alM, hc])
    have e4 := Lib.hid (show 1 = alC z u i l m qs n k by simp [alC, hc])
    clear hc
    go_enter Try.func33, Try.ntmps33
    go_wp2_with fail
    generalize hW : (((w.alloc (Obj.cells #[.int .i64 z, .int .i64 u, .int .i64 i, .int .i64 l, .int .i64 m] 25)).alloc (Obj.cells #[.int .i64 n, .int .i64 k] 31)).alloc (Obj.cells #[.int .i64 0, .int .i64 0] 31)) = W
    have hE : Ext w W := by rw [← hW]; exact ((((Ext.refl _).alloc _).alloc _).alloc _)
    have hl0 : w.heap.size < W.heap.size := by rw [← hW]; simp; try omega
    have hl1 : w.heap.size + 1 < W.heap.size := by rw [← hW]; simp; try omega
    have hl2 : w.heap.size + 2 < W.heap.size := by rw [← hW]; simp; try omega
    have f0_0 : W.cell? ⟨w.heap.size, 0, none⟩ = some (.int .i64 z) := by rw [← hW]; simp [go_sem]
    have f0_1 : W.cell? ⟨w.heap.size, 1, none⟩ = some (.int .i64 u) := by rw [← hW]; simp [go_sem]
    have f0_2 : W.cell? ⟨w.heap.size, 2, none⟩ = some (.int .i64 i) := by rw [← hW]; simp [go_sem]
    have f0_3 : W.cell? ⟨w.heap.size, 3, none⟩ = some (.int .i64 l) := by rw [← hW]; simp [go_sem]
    have f0_4 : W.cell? ⟨w.heap.size, 4, none⟩ = some (.int .i64 m) := by rw [← hW]; simp [go_sem]
    have f1_0 : W.cell? ⟨w.heap.size + 1, 0, none⟩ = some (.int .i64 n) := by rw [← hW]; simp [go_sem]
    have f1_1 : W.cell? ⟨w.heap.size + 1, 1, none⟩ = some (.int .i64 k) := by rw [← hW]; simp [go_sem]
    have f2_0 : W.cell? ⟨w.heap.size + 2, 0, none⟩ = some (.int .i64 0) := by rw [← hW]; simp [go_sem]
    have f2_1 : W.cell? ⟨w.heap.size + 2, 1, none⟩ = some (.int .i64 0) := by rw [← hW]; simp [go_sem]
    have q1_0 : W.frozen? ⟨w.heap.size + 1, 0, none⟩ = false := by rw [← hW]; simp [go_sem]
    have q1_1 : W.frozen? ⟨w.heap.size + 1, 1, none⟩ = false := by rw [← hW]; simp [go_sem]
    have q2_0 : W.frozen? ⟨w.heap.size + 1 + 1, 0, none⟩ = false := by rw [← hW]; simp [go_sem]
    have q2_1 : W.frozen? ⟨w.heap.size + 1 + 1, 1, none⟩ = false := by rw [← hW]; simp [go_sem]
    clear hW
    have x0 := Ext.refl W
    go_wp2_with (first | (go_at_call 23; refine (implValidBeat_any z u i l m n k _).mono ?_; rintro e w1 ⟨rfl, x1⟩; (try clear xc xf xs); (first | replace x0 := x0.trans x1 | replace x0 := (x0.alloc _).trans x1 | replace x0 := (x0.drew).trans x1 | replace x0 := (x0.drew.alloc _).trans x1 | replace x0 := (x0.alloc _).drew.trans x1 | replace x0 := ((x0.alloc _).alloc _).trans x1 | have x0 := x1); clear x1; obtain ⟨xc, xf, xs⟩ := x0.cells))
    exact bodyPost_ret (v := .tuple #[.agg #[.int .i64 0, .int .i64 0], .slice none 0 0, .int .i64 1]) (by simp [results, Try.results33, go_sem, *]) rfl ⟨_, al3 e1.out e2.out e4.out, (by rw [← e3.out]; exact World.ownsRow_nil _ _ _ _), by (repeat (first | exact hE.trans x0 | exact xw | exact xq | refine Ext.setCell ?_ (by simp; try omega) _ | refine Ext.alloc ?_ _))⟩
  by_cases h2 : 2000 < N
  · have t0 : (2000 : Int) < (N : Int) := by omega
    have hc : cdA z u i l m qs n k = 2 := by simp [cdA, h1, okQs_long hn h2]
    have e1 := Lib.hid (show 0 = alE z u i l m qs n k by simp [alE, hc])
    have e2 := Lib.hid (show 0 = alK z u i l m qs n k by simp [alK, hc])
    have e3 := Lib.hid (show [] = alM z u i l m qs n k by simp [alM, hc])
    have e4 := Lib.hid (show 2 = alC z u i l m qs n k by simp [alC, hc])
    clear hc
    go_enter Try.func33, Try.ntmps33
    go_wp2_with fail
    generalize hW : (((w.alloc (Obj.cells #[.int .i64 z, .int .i64 u, .int .i64 i, .int .i64 l, .int .i64 m] 25)).alloc (Obj.cells #[.int .i64 n, .int .i64 k] 31)).alloc (Obj.cells #[.int .i64 0, .int .i64 0] 31)) = W
    have hE : Ext w W := by rw [← hW]; exact ((((Ext.refl _).alloc _).alloc _).alloc _)
    have hl0 : w.heap.size < W.heap.size := by rw [← hW]; simp; try omega
    have hl1 : w.heap.size + 1 < W.heap.size := by rw [← hW]; simp; try omega
    have hl2 : w.heap.size + 2 < W.heap.size := by rw [← hW]; simp; try omega
    have f0_0 : W.cell? ⟨w.heap.size, 0, none⟩ = some (.int .i64 z) := by rw [← hW]; simp [go_sem]
    have f0_1 : W.cell? ⟨w.heap.size, 1, none⟩ = some (.int .i64 u) := by rw [← hW]; simp [go_sem]
    have f0_2 : W.cell? ⟨w.heap.size, 2, none⟩ = some (.int .i64 i) := by rw [← hW]; simp [go_sem]
    have f0_3 : W.cell? ⟨w.heap.size, 3, none⟩ = some (.int .i64 l) := by rw [← hW]; simp [go_sem]
    have f0_4 : W.cell? ⟨w.heap.size, 4, none⟩ = some (.int .i64 m) := by rw [← hW]; simp [go_sem]
    have f1_0 : W.cell? ⟨w.heap.size + 1, 0, none⟩ = some (.int .i64 n) := by rw [← hW]; simp [go_sem]
    have f1_1 : W.cell? ⟨w.heap.size + 1, 1, none⟩ = some (.int .i64 k) := by rw [← hW]; simp [go_sem]
    have f2_0 : W.cell? ⟨w.heap.size + 2, 0, none⟩ = some (.int .i64 0) := by rw [← hW]; simp [go_sem]
    have f2_1 : W.cell? ⟨w.heap.size + 2, 1, none⟩ = some (.int .i64 0) := by rw [← hW]; simp [go_sem]
    have q1_0 : W.frozen? ⟨w.heap.size + 1, 0, none⟩ = false := by rw [← hW]; simp [go_sem]
    have q1_1 : W.frozen? ⟨w.heap.size + 1, 1, none⟩ = false := by rw [← hW]; simp [go_sem]
    have q2_0 : W.frozen? ⟨w.heap.size + 1 + 1, 0, none⟩ = false := by rw [← hW]; simp [go_sem]
    have q2_1 : W.frozen? ⟨w.heap.size + 1 + 1, 1, none⟩ = false := by rw [← hW]; simp [go_sem]
    clear hW
    have x0 := Ext.refl W
    go_wp2_with (first | (go_at_call 23; refine (implValidBeat_any z u i l m n k _).mono ?_; rintro e w1 ⟨rfl, x1⟩; (try clear xc xf xs); (first | replace x0 := x0.trans x1 | replace x0 := (x0.alloc _).trans x1 | replace x0 := (x0.drew).trans x1 | replace x0 := (x0.drew.alloc _).trans x1 | replace x0 := (x0.alloc _).drew.trans x1 | replace x0 := ((x0.alloc _).alloc _).trans x1 | have x0 := x1); clear x1; obtain ⟨xc, xf, xs⟩ := x0.cells))
    exact bodyPost_ret (v := .tuple #[.agg #[.int .i64 0, .int .i64 0], .slice none 0 0, .int .i64 2]) (by simp [results, Try.results33, go_sem, *]) rfl ⟨_, al3 e1.out e2.out e4.out, (by rw [← e3.out]; exact World.ownsRow_nil _ _ _ _), by (repeat (first | exact hE.trans x0 | exact xw | exact xq | refine Ext.setCell ?_ (by simp; try omega) _ | refine Ext.alloc ?_ _))⟩
  have t0 : ¬ (2000 : Int) < (N : Int) := by omega
  go_enter Try.func33, Try.ntmps33
  go_wp2_with fail
  generalize hW : (((w.alloc (Obj.cells #[.int .i64 z, .int .i64 u, .int .i64 i, .int .i64 l, .int .i64 m] 25)).alloc (Obj.cells #[.int .i64 n, .int .i64 k] 31)).alloc (Obj.cells #[.int .i64 0, .int .i64 0] 31)) = W
  have hE : Ext w W := by rw [← hW]; exact ((((Ext.refl _).alloc _).alloc _).alloc _)
  have hl0 : w.heap.size < W.heap.size := by rw [← hW]; simp; try omega
  have hl1 : w.heap.size + 1 < W.heap.size := by rw [← hW]; simp; try omega
  have hl2 : w.heap.size + 2 < W.heap.size := by rw [← hW]; simp; try omega
  have f0_0 : W.cell? ⟨w.heap.size, 0, none⟩ = some (.int .i64 z) := by rw [← hW]; simp [go_sem]
  have f0_1 : W.cell? ⟨w.heap.size, 1, none⟩ = some (.int .i64 u) := by rw [← hW]; simp [go_sem]
  have f0_2 : W.cell? ⟨w.heap.size, 2, none⟩ = some (.int .i64 i) := by rw [← hW]; simp [go_sem]
  have f0_3 : W.cell? ⟨w.heap.size, 3, none⟩ = some (.int .i64 l) := by rw [← hW]; simp [go_sem]
  have f0_4 : W.cell? ⟨w.heap.size, 4, none⟩ = some (.int .i64 m) := by rw [← hW]; simp [go_sem]
  have f1_0 : W.cell? ⟨w.heap.size + 1, 0, none⟩ = some (.int .i64 n) := by rw [← hW]; simp [go_sem]
  have f1_1 : W.cell? ⟨w.heap.size + 1, 1, none⟩ = some (.int .i64 k) := by rw [← hW]; simp [go_sem]
  have f2_0 : W.cell? ⟨w.heap.size + 2, 0, none⟩ = some (.int .i64 0) := by rw [← hW]; simp [go_sem]
  have f2_1 : W.cell? ⟨w.heap.size + 2, 1, none⟩ = some (.int .i64 0) := by rw [← hW]; simp [go_sem]
  have q1_0 : W.frozen? ⟨w.heap.size + 1, 0, none⟩ = false := by rw [← hW]; simp [go_sem]
  have q1_1 : W.frozen? ⟨w.heap.size + 1, 1, none⟩ = false := by rw [← hW]; simp [go_sem]
  have q2_0 : W.frozen? ⟨w.heap.size + 1 + 1, 0, none⟩ = false := by rw [← hW]; simp [go_sem]
  have q2_1 : W.frozen? ⟨w.heap.size + 1 + 1, 1, none⟩ = false := by rw [← hW]; simp [go_sem]
  clear hW
  have x0 := Ext.refl W
  go_wp2_with (first | (go_at_call 23; refine (implValidBeat_any z u i l m n k _).mono ?_; rintro e w1 ⟨rfl, x1⟩; (try clear xc xf xs); (first | replace x0 := x0.trans x1 | replace x0 := (x0.alloc _).trans x1 | replace x0 := (x0.drew).trans x1 | replace x0 := (x0.drew.alloc _).trans x1 | replace x0 := (x0.alloc _).drew.trans x1 | replace x0 := ((x0.alloc _).alloc _).trans x1 | have x0 := x1); clear x1; obtain ⟨xc, xf, xs⟩ := x0.cells))
  go_loopw [28] (fun kk wr => ∃ j : Nat, kk = .int .i64 j ∧ j ≤ N ∧ Ext W wr ∧ Hid (∀ t, t < j → inB (qs.getD t 0) 0 1000 = true)) (fun kk _ => N - (intOf kk).toNat)
  case atStart => exact ⟨0, rfl, Nat.zero_le _, x0, Lib.hid (fun t ht => by omega)⟩
  case round =>
    clear x0; (try clear xc xf xs)
    obtain ⟨j, rfl, hj, x0, hh⟩ := hrel
    by_cases hlt : j < N
    · obtain ⟨bb, off, rfl, hbb, q, hqe, cq⟩ := ((hr.ext hE).ext x0).look (j := j) (by omega)
      have t1 : decide ((j : Int) < (N : Int)) = true := by simp; omega
      cases h3 : inB q 0 1000
      · have hb := okQs_bad hn hlt (by rw [hqe.out]; exact h3)
        have hc : cdA z u i l m qs n k = 2 := by simp [cdA, h1, hb]
        have e1 := Lib.hid (show 0 = alE z u i l m qs n k by simp [alE, hc])
        have e2 := Lib.hid (show 0 = alK z u i l m qs n k by simp [alK, hc])
        have e3 := Lib.hid (show [] = alM z u i l m qs n k by simp [alM, hc])
        have e4 := Lib.hid (show 2 = alC z u i l m qs n k by simp [alC, hc])
        clear hc
        clear hb
        have v2_0 := (x0.cells.1 _ _ hl2).trans f2_0
        have v2_1 := (x0.cells.1 _ _ hl2).trans f2_1
        have v3_0 := (x0.cells.2.1 _ _ hl2).trans q2_0
        have v3_1 := (x0.cells.2.1 _ _ hl2).trans q2_1
        go_wp2_with (first | (go_at_call 64; refine (isTorque_any _ _).mono ?_; rintro e w1 ⟨rfl, rfl⟩))
        exact bodyPost_ret (v := .tuple #[.agg #[.int .i64 0, .int .i64 0], .slice none 0 0, .int .i64 2]) (by simp [results, Try.results33, go_sem, *]) rfl ⟨_, al3 e1.out e2.out e4.out, (by rw [← e3.out]; exact World.ownsRow_nil _ _ _ _), by (repeat (first | exact hE.trans x0 | exact xw | exact xq | refine Ext.setCell ?_ (by simp; try omega) _ | refine Ext.alloc ?_ _))⟩
      · have hk := Lib.hid (show ∀ t, t < j + 1 → inB (qs.getD t 0) 0 1000 = true from fun t ht => by
          by_cases htj : t = j
          · rw [htj, hqe.out]; exact h3
          · exact hh.out t (by omega))
        go_wp2_with (first | (go_at_call 64; refine (isTorque_any _ _).mono ?_; rintro e w1 ⟨rfl, rfl⟩))
        go_roundw
        case rel => exact ⟨j + 1, by go_num, by omega, x0, hk⟩
        case measure => simp [intOf]; omega
    · obtain rfl : N = j := by omega
      have t1 : decide ((N : Int) < (N : Int)) = false := by simp
      have hq := okQs_yes hn (by omega) (fun t ht => hh.out t (by omega))
      have hc : cdA z u i l m qs n k = 0 := by simp [cdA, h1, hq]
      have g1 := Lib.hid (show alE z u i l m qs n k = ((alS u i l m qs n k qs.length).map (fun s => s.1)).getD 0 by rw [alE, if_pos hc])
      have g2 := Lib.hid (show alK z u i l m qs n k = ((alS u i l m qs n k qs.length).map (fun s => s.2.1)).getD 0 by rw [alK, if_pos hc])
      have g3 := Lib.hid (show alM z u i l m qs n k = ((alS u i l m qs n k qs.length).map (fun s => s.2.2)).getD [] by rw [alM, if_pos hc])
      have g4 := Lib.hid (show alC z u i l m qs n k = if (alS u i l m qs n k qs.length).isSome = true then 0 else 5 by rw [alC, if_pos hc])
      obtain ⟨ev, ⟨hn0, hk⟩, _⟩ := cdA_ok hc
      have hu := ev.bu; have hi := ev.bi; have hl := ev.bl
      have hm : 1 ≤ m ∧ m ≤ 100000 := by have := ev.bm; omega
      have hN2 : N ≤ 2000 := by omega
      clear hc hh h1 h2
      replace hq := Lib.hid hq
      obtain ⟨V, hV⟩ : ∃ V, V = wr := ⟨_, rfl⟩
      replace hE := hE.trans x0
      replace f0_0 := (x0.cells.1 _ _ hl0).trans f0_0
      replace f0_1 := (x0.cells.1 _ _ hl0).trans f0_1
      replace f0_2 := (x0.cells.1 _ _ hl0).trans f0_2
      replace f0_3 := (x0.cells.1 _ _ hl0).trans f0_3
      replace f0_4 := (x0.cells.1 _ _ hl0).trans f0_4
      replace f1_0 := (x0.cells.1 _ _ hl1).trans f1_0
      replace f1_1 := (x0.cells.1 _ _ hl1).trans f1_1
      replace f2_0 := (x0.cells.1 _ _ hl2).trans f2_0
      replace f2_1 := (x0.cells.1 _ _ hl2).trans f2_1
      replace q1_0 := (x0.cells.2.1 _ _ hl1).trans q1_0
      replace q1_1 := (x0.cells.2.1 _ _ hl1).trans q1_1
      replace q2_0 := (x0.cells.2.1 _ _ hl2).trans q2_0
      replace q2_1 := (x0.cells.2.1 _ _ hl2).trans q2_1
      replace hl0 := Nat.lt_of_lt_of_le hl0 x0.size
      replace hl1 := Nat.lt_of_lt_of_le hl1 x0.size
      replace hl2 := Nat.lt_of_lt_of_le hl2 x0.size
      clear x0 hlt hj
      rw [← hV] at *
      clear hV
      go_wp2_with fail
      obtain ⟨B, hB⟩ : ∃ B, B = V.heap.size := ⟨_, rfl⟩
      have hb0 : w.heap.size < B := by omega
      have hb1 : w.heap.size + 1 < B := by omega
      have hb2 : w.heap.size + 1 + 1 < B := by omega
      go_loopw [11, 39] (fun sv sj wr => ∃ (x y : Int) (j : Nat) (ms : List Int), sj = .int .i64 j ∧ j ≤ N ∧ (0 ≤ x ∧ x ≤ m) ∧ (0 ≤ y ∧ y ≤ 1000000000) ∧ ms.length ≤ j ∧ Ext w wr ∧ B ≤ wr.heap.size ∧ IntsOf wr B sv ms ∧ wr.cell? ⟨w.heap.size, 0, none⟩ = some (.int .i64 z) ∧ wr.cell? ⟨w.heap.size, 1, none⟩ = some (.int .i64 u) ∧ wr.cell? ⟨w.heap.size, 2, none⟩ = some (.int .i64 i) ∧ wr.cell? ⟨w.heap.size, 3, none⟩ = some (.int .i64 l) ∧ wr.cell? ⟨w.heap.size, 4, none⟩ = some (.int .i64 m) ∧ wr.cell? ⟨w.heap.size + 1, 0, none⟩ = some (.int .i64 x) ∧ wr.cell? ⟨w.heap.size + 1, 1, none⟩ = some (.int .i64 y) ∧ wr.cell? ⟨w.heap.size + 1 + 1, 0, none⟩ = some (.int .i64 0) ∧ wr.cell? ⟨w.heap.size + 1 + 1, 1, none⟩ = some (.int .i64 0) ∧ wr.frozen? ⟨w.heap.size + 1, 0, none⟩ = false ∧ wr.frozen? ⟨w.heap.size + 1, 1, none⟩ = false ∧ wr.frozen? ⟨w.heap.size + 1 + 1, 0, none⟩ = false ∧ wr.frozen? ⟨w.heap.size + 1 + 1, 1, none⟩ = false ∧ Hid (alS u i l m qs n k j = some (x, y, ms))) (fun _ sj _ => N - (intOf sj).toNat)
      case atStart => exact ⟨n, k, 0, [], rfl, Nat.zero_le _, hn0, hk, Nat.le_refl _, hE, by omega, World.ownsRow_nil _ _ _ _, f0_0, f0_1, f0_2, f0_3, f0_4, f1_0, f1_1, f2_0, f2_1, q1_0, q1_1, q2_0, q2_1, Lib.hid rfl⟩
      case round =>
        clear hE hl0 hl1 hl2 hB f0_0 f0_1 f0_2 f0_3 f0_4 f1_0 f1_1 f2_0 f2_1 q1_0 q1_1 q2_0 q2_1
        skip
        obtain ⟨x, y, j, ms, rfl, hj, hx, hy, hms, xw, hBr, hown, c0_0, c0_1, c0_2, c0_3, c0_4, c1_0, c1_1, c2_0, c2_1, z1_0, z1_1, z2_0, z2_1, hh⟩ := hrel
        have hl0 : w.heap.size < wr.heap.size := by omega
        have hl1 : w.heap.size + 1 < wr.heap.size := by omega
        have hl2 : w.heap.size + 1 + 1 < wr.heap.size := by omega
        by_cases hlt : j < N
        · obtain ⟨bb, off, rfl, hbb, q, hqe, cq⟩ := ((hr.ext xw)).look (j := j) (by omega)
          have hq2 := okQs_at hq.out (j := j) (by omega)
          rw [hqe.out] at hq2
          have t1 : decide ((j : Int) < (N : Int)) = true := by simp; omega
          have t2 : (j : Int) < (N : Int) := by omega
          have nx := aE_bd (u := u) (i := i) (l := l) (m := m) (q := q) (x := x) (y := y) hu.1 hi.1 hl (by omega) hq2.1 hx
          have hxm : 0 ≤ x ∧ x ≤ 100000 := by omega
          cases hok : afOk u l q x y
          · have hmm : alS u i l m qs n k qs.length = none := alS_no hh.out (by rw [hqe.out]; exact hok) (by omega)
            have e1 := Lib.hid (show 0 = alE z u i l m qs n k by rw [g1.out, hmm]; rfl)
            have e2 := Lib.hid (show 0 = alK z u i l m qs n k by rw [g2.out, hmm]; rfl)
            have e3 := Lib.hid (show [] = alM z u i l m qs n k by rw [g3.out, hmm]; rfl)
            have e4 := Lib.hid (show 5 = alC z u i l m qs n k by rw [g4.out, hmm]; rfl)
            have a0 := aC_no (u := u) (l := l) (q := q) hok
            clear hmm hok nx
            go_upto_region 16 with (go_at_call 69; refine (after_any z u i l m q x y _ hu hi hl hm hq2 hxm hy).mono ?_; rintro e w1 ⟨rfl, x1⟩)
            generalize hU : World.alloc _ _ = U
            have xU : Ext w1 U := by rw [← hU]; exact (Ext.refl _).alloc _
            have d0 : U.cell? ⟨w1.heap.size, 0, none⟩ = some (.int .i64 (aE u i l m q x y)) := by rw [← hU]; simp [go_sem]
            have d1 : U.cell? ⟨w1.heap.size, 1, none⟩ = some (.int .i64 (aK u l q x y)) := by rw [← hU]; simp [go_sem]
            have hg : wr.heap.size ≤ w1.heap.size := x1.size
            generalize w1.heap.size = g at *
            replace x1 := x1.trans xU
            clear hU xU
            replace c0_0 := (x1.cells.1 _ _ hl0).trans c0_0
            replace c0_1 := (x1.cells.1 _ _ hl0).trans c0_1
            replace c0_2 := (x1.cells.1 _ _ hl0).trans c0_2
            replace c0_3 := (x1.cells.1 _ _ hl0).trans c0_3
            replace c0_4 := (x1.cells.1 _ _ hl0).trans c0_4
            replace c1_0 := (x1.cells.1 _ _ hl1).trans c1_0
            replace c1_1 := (x1.cells.1 _ _ hl1).trans c1_1
            replace c2_0 := (x1.cells.1 _ _ hl2).trans c2_0
            replace c2_1 := (x1.cells.1 _ _ hl2).trans c2_1
            replace z1_0 := (x1.cells.2.1 _ _ hl1).trans z1_0
            replace z1_1 := (x1.cells.2.1 _ _ hl1).trans z1_1
            replace z2_0 := (x1.cells.2.1 _ _ hl2).trans z2_0
            replace z2_1 := (x1.cells.2.1 _ _ hl2).trans z2_1
            have hgU : g < U.heap.size := World.block_lt_of_cell? _ _ d0
            have xq := xw.trans x1
            replace hl0 := Nat.lt_of_lt_of_le hl0 x1.size
            replace hl1 := Nat.lt_of_lt_of_le hl1 x1.size
            replace hl2 := Nat.lt_of_lt_of_le hl2 x1.size
            have hk0 : w.heap.size ≠ g := by omega
            have hk1 : w.heap.size + 1 ≠ g := by omega
            have hk2 : w.heap.size + 1 + 1 ≠ g := by omega
            have hk0' : g ≠ w.heap.size := by omega
            have hk1' : g ≠ w.heap.size + 1 := by omega
            have hk2' : g ≠ w.heap.size + 1 + 1 := by omega
            go_wp2_with fail
            exact bodyPost_ret (v := .tuple #[.agg #[.int .i64 0, .int .i64 0], .slice none 0 0, .int .i64 5]) (by simp [results, Try.results33, go_sem, *]) rfl ⟨_, al3 e1.out e2.out e4.out, (by rw [← e3.out]; exact World.ownsRow_nil _ _ _ _), by (repeat (first | exact hE.trans x0 | exact xw | exact xq | refine Ext.setCell ?_ (by simp; try omega) _ | refine Ext.alloc ?_ _))⟩
          · have a0 := aC_yes (u := u) (l := l) (q := q) hok
            have ny := aK_bd (u := u) (l := l) (q := q) (x := x) hy hok
            cases ht : swT u l q x
            · have a1 : aT u l q x y = false := by simp [aT, hok, ht]
              have hmm := Lib.hid (alS_miss hh.out (by rw [hqe.out]; exact hok) (by rw [hqe.out]; exact ht))
              rw [hqe.out] at hmm
              have hne0 := off_row hown hb0
              have hne1 := off_row hown hb1
              have hne2 := off_row hown hb2
              clear hok ht
              have hneg := fun g (h : wr.heap.size ≤ g) => off_row' hown h
              go_upto_region 16 with (go_at_call 69; refine (after_any z u i l m q x y _ hu hi hl hm hq2 hxm hy).mono ?_; rintro e w1 ⟨rfl, x1⟩)
              generalize hU : World.alloc _ _ = U
              have xU : Ext w1 U := by rw [← hU]; exact (Ext.refl _).alloc _
              have d0 : U.cell? ⟨w1.heap.size, 0, none⟩ = some (.int .i64 (aE u i l m q x y)) := by rw [← hU]; simp [go_sem]
              have d1 : U.cell? ⟨w1.heap.size, 1, none⟩ = some (.int .i64 (aK u l q x y)) := by rw [← hU]; simp [go_sem]
              have hg : wr.heap.size ≤ w1.heap.size := x1.size
              generalize w1.heap.size = g at *
              replace x1 := x1.trans xU
              clear hU xU
              replace c0_0 := (x1.cells.1 _ _ hl0).trans c0_0
              replace c0_1 := (x1.cells.1 _ _ hl0).trans c0_1
              replace c0_2 := (x1.cells.1 _ _ hl0).trans c0_2
              replace c0_3 := (x1.cells.1 _ _ hl0).trans c0_3
              replace c0_4 := (x1.cells.1 _ _ hl0).trans c0_4
              replace c1_0 := (x1.cells.1 _ _ hl1).trans c1_0
              replace c1_1 := (x1.cells.1 _ _ hl1).trans c1_1
              replace c2_0 := (x1.cells.1 _ _ hl2).trans c2_0
              replace c2_1 := (x1.cells.1 _ _ hl2).trans c2_1
              replace z1_0 := (x1.cells.2.1 _ _ hl1).trans z1_0
              replace z1_1 := (x1.cells.2.1 _ _ hl1).trans z1_1
              replace z2_0 := (x1.cells.2.1 _ _ hl2).trans z2_0
              replace z2_1 := (x1.cells.2.1 _ _ hl2).trans z2_1
              have hgU : g < U.heap.size := World.block_lt_of_cell? _ _ d0
              have xq := xw.trans x1
              replace hl0 := Nat.lt_of_lt_of_le hl0 x1.size
              replace hl1 := Nat.lt_of_lt_of_le hl1 x1.size
              replace hl2 := Nat.lt_of_lt_of_le hl2 x1.size
              have hk0 : w.heap.size ≠ g := by omega
              have hk1 : w.heap.size + 1 ≠ g := by omega
              have hk2 : w.heap.size + 1 + 1 ≠ g := by omega
              have hk0' : g ≠ w.heap.size := by omega
              have hk1' : g ≠ w.heap.size + 1 := by omega
              have hk2' : g ≠ w.heap.size + 1 + 1 := by omega
              replace hneg := hneg g hg
              replace hown := hown.ext x1
              go_upto_region 19 with fail
              obtain ⟨i0, hii, hz0, hz1, hz2⟩ := int_info
              go_wp2_with (at_builtin; refine wpList_append_wrote _ rfl _ _ 48 rfl B 2 i0 (.int .i64 0) 1 8 Try.underlying48 hii hz0 hz1 hz2 rfl (by decide) _ _ _ rfl (hown.ext ((Ext.refl _).alloc _)) ⟨U.heap.size, 0, none⟩ 1 1 [.int .i64 j] rfl rfl (one_new _ _ rfl) (one_cell _) ?c3 ?c4 ?c5 ?_)
              case c3 => unfold maxLen; omega
              case c4 => omega
              case c5 => have := x1.size; simp; omega
              intro v' w2 h2 hw
              replace h2 := IntsOf.push h2 rfl
              replace hw := (Wrote.alloc _ _ _).trans hw
              replace c0_0 := (hw.cell hl0 hne0).trans c0_0
              replace c0_1 := (hw.cell hl0 hne0).trans c0_1
              replace c0_2 := (hw.cell hl0 hne0).trans c0_2
              replace c0_3 := (hw.cell hl0 hne0).trans c0_3
              replace c0_4 := (hw.cell hl0 hne0).trans c0_4
              replace c1_0 := (hw.cell hl1 hne1).trans c1_0
              replace c1_1 := (hw.cell hl1 hne1).trans c1_1
              replace c2_0 := (hw.cell hl2 hne2).trans c2_0
              replace c2_1 := (hw.cell hl2 hne2).trans c2_1
              replace z1_0 := (hw.free hl1 hne1).trans z1_0
              replace z1_1 := (hw.free hl1 hne1).trans z1_1
              replace z2_0 := (hw.free hl2 hne2).trans z2_0
              replace z2_1 := (hw.free hl2 hne2).trans z2_1
              replace d0 := (hw.cell hgU hneg).trans d0
              replace d1 := (hw.cell hgU hneg).trans d1
              replace xq := hw.ext xq (fun k hk => by have := (hown.lt k hk).1; omega)
              have hs2 := hw.size
              replace hms : (ms ++ [(j : Int)]).length ≤ j + 1 := by simp; omega
              clear hw hown hii hz0 hz1 hz2
              replace hl0 := Nat.lt_of_lt_of_le hl0 hs2
              replace hl1 := Nat.lt_of_lt_of_le hl1 hs2
              replace hl2 := Nat.lt_of_lt_of_le hl2 hs2
              go_wp2_with fail
              go_roundw
              case rel =>
                refine ⟨_, _, j + 1, _, by go_num, by omega, nx, ny, ?_, ?_, ?_, ?_, ?_, ?_, ?_, ?_, ?_, ?_, ?_, ?_, ?_, ?_, ?_, ?_, ?_, hmm⟩
                · first | exact hms | omega
                · exact (xq.setCell (by simp) _).setCell (by simp) _
                · simp [World.setCell]; omega
                · exact (h2.other hb1 _).other hb1 _
                all_goals simp [go_sem, *]
              case measure => simp [intOf]; omega
            · have a1 : aT u l q x y = true := by simp [aT, hok, ht]
              have hmm := Lib.hid (alS_tick hh.out (by rw [hqe.out]; exact hok) (by rw [hqe.out]; exact ht))
              rw [hqe.out] at hmm
              clear hok ht
              go_upto_region 16 with (go_at_call 69; refine (after_any z u i l m q x y _ hu hi hl hm hq2 hxm hy).mono ?_; rintro e w1 ⟨rfl, x1⟩)
              generalize hU : World.alloc _ _ = U
              have xU : Ext w1 U := by rw [← hU]; exact (Ext.refl _).alloc _
              have d0 : U.cell? ⟨w1.heap.size, 0, none⟩ = some (.int .i64 (aE u i l m q x y)) := by rw [← hU]; simp [go_sem]
              have d1 : U.cell? ⟨w1.heap.size, 1, none⟩ = some (.int .i64 (aK u l q x y)) := by rw [← hU]; simp [go_sem]
              have hg : wr.heap.size ≤ w1.heap.size := x1.size
              generalize w1.heap.size = g at *
              replace x1 := x1.trans xU
              clear hU xU
              replace c0_0 := (x1.cells.1 _ _ hl0).trans c0_0
              replace c0_1 := (x1.cells.1 _ _ hl0).trans c0_1
              replace c0_2 := (x1.cells.1 _ _ hl0).trans c0_2
              replace c0_3 := (x1.cells.1 _ _ hl0).trans c0_3
              replace c0_4 := (x1.cells.1 _ _ hl0).trans c0_4
              replace c1_0 := (x1.cells.1 _ _ hl1).trans c1_0
              replace c1_1 := (x1.cells.1 _ _ hl1).trans c1_1
              replace c2_0 := (x1.cells.1 _ _ hl2).trans c2_0
              replace c2_1 := (x1.cells.1 _ _ hl2).trans c2_1
              replace z1_0 := (x1.cells.2.1 _ _ hl1).trans z1_0
              replace z1_1 := (x1.cells.2.1 _ _ hl1).trans z1_1
              replace z2_0 := (x1.cells.2.1 _ _ hl2).trans z2_0
              replace z2_1 := (x1.cells.2.1 _ _ hl2).trans z2_1
              have hgU : g < U.heap.size := World.block_lt_of_cell? _ _ d0
              have xq := xw.trans x1
              replace hl0 := Nat.lt_of_lt_of_le hl0 x1.size
              replace hl1 := Nat.lt_of_lt_of_le hl1 x1.size
              replace hl2 := Nat.lt_of_lt_of_le hl2 x1.size
              have hk0 : w.heap.size ≠ g := by omega
              have hk1 : w.heap.size + 1 ≠ g := by omega
              have hk2 : w.heap.size + 1 + 1 ≠ g := by omega
              have hk0' : g ≠ w.heap.size := by omega
              have hk1' : g ≠ w.heap.size + 1 := by omega
              have hk2' : g ≠ w.heap.size + 1 + 1 := by omega
              replace hown := hown.ext x1
              go_wp2_with fail
              go_roundw
              case rel =>
                refine ⟨_, _, j + 1, _, by go_num, by omega, nx, ny, ?_, ?_, ?_, ?_, ?_, ?_, ?_, ?_, ?_, ?_, ?_, ?_, ?_, ?_, ?_, ?_, ?_, hmm⟩
                · first | exact hms | omega
                · exact (xq.setCell (by simp) _).setCell (by simp) _
                · simp [World.setCell]; omega
                · exact (hown.other hb1 _).other hb1 _
                all_goals simp [go_sem, *]
              case measure => simp [intOf]; omega
        · obtain rfl : N = j := by omega
          have hqn : qs.length = N := by omega
          rw [← hqn] at hh
          have e1 := Lib.hid (show x = alE z u i l m qs n k by rw [g1.out, hh.out]; rfl)
          have e2 := Lib.hid (show y = alK z u i l m qs n k by rw [g2.out, hh.out]; rfl)
          have e3 := Lib.hid (show ms = alM z u i l m qs n k by rw [g3.out, hh.out]; rfl)
          have e4 := Lib.hid (show 0 = alC z u i l m qs n k by rw [g4.out, hh.out]; rfl)
          have t1 : decide ((N : Int) < (N : Int)) = false := by simp
          obtain ⟨va, vc, rfl⟩ := hown.shape
          replace hown := Lib.hid hown
          clear hr hqn
          go_wp2_with fail
          exact bodyPost_ret (v := .tuple #[.agg #[.int .i64 x, .int .i64 y], .slice va ms.length vc, .int .i64 0]) (by simp [results, Try.results33, go_sem, *]) rfl ⟨_, al3 e1.out e2.out e4.out, (by rw [← e3.out]; exact own_base ((hown.out.other hb2 _).other hb2 _) (by omega)), by (repeat (first | exact hE.trans x0 | exact xw | exact xq | refine Ext.setCell ?_ (by simp; try omega) _ | refine Ext.alloc ?_ _))⟩
set_option maxHeartbeats 16000000 in
theorem specSwingAlong_any (z u i l m n k : Int) (a : Option Addr) (N c : Nat) (qs : List Int) (w : World) (hr : Row1 w a qs) (hn : qs.length = N) (hN : N ≤ 1048576) :
    Calls Try.prog 34 #[.agg #[.int .i64 z, .int .i64 u, .int .i64 i, .int .i64 l, .int .i64 m], .slice a N c, .agg #[.int .i64 n, .int .i64 k]] w fun e w' => ∃ v, e = .returned (.tuple #[.agg #[.int .i64 (alE z u i l m qs n k), .int .i64 (alK z u i l m qs n k)], v, .int .i64 (alC z u i l m qs n k)]) ∧ IntsOf w' w.heap.size v (alM z u i l m qs n k) ∧ Ext w w' := by
  cases h1 : vBeat z u i l m n k
  · have hc : cdA z u i l m qs n k = 1 := by simp [cdA, h1]
    have e1 := Lib.hid (show 0 = alE z u i l m qs n k by simp [alE, hc])
    have e2 := Lib.hid (show 0 = alK z u i l m qs n k by simp [alK, hc])
    have e3 := Lib.hid (show [] = alM z u i l m qs n k by simp [alM, hc])
    have e4 := Lib.hid (show 1 = alC z u i l m qs n k by simp [alC, hc])
    clear hc
    go_enter Try.func34, Try.ntmps34
    go_wp2_with fail
    generalize hW : (((w.alloc (Obj.cells #[.int .i64 z, .int .i64 u, .int .i64 i, .int .i64 l, .int .i64 m] 25)).alloc (Obj.cells #[.int .i64 n, .int .i64 k] 31)).alloc (Obj.cells #[.int .i64 0, .int .i64 0] 31)) = W
    have hE : Ext w W := by rw [← hW]; exact ((((Ext.refl _).alloc _).alloc _).alloc _)
    have hl0 : w.heap.size < W.heap.size := by rw [← hW]; simp; try omega
    have hl1 : w.heap.size + 1 < W.heap.size := by rw [← hW]; simp; try omega
    have hl2 : w.heap.size + 2 < W.heap.size := by rw [← hW]; simp; try omega
    have f0_0 : W.cell? ⟨w.heap.size, 0, none⟩ = some (.int .i64 z) := by rw [← hW]; simp [go_sem]
    have f0_1 : W.cell? ⟨w.heap.size, 1, none⟩ = some (.int .i64 u) := by rw [← hW]; simp [go_sem]
    have f0_2 : W.cell? ⟨w.heap.size, 2, none⟩ = some (.int .i64 i) := by rw [← hW]; simp [go_sem]
    have f0_3 : W.cell? ⟨w.heap.size, 3, none⟩ = some (.int .i64 l) := by rw [← hW]; simp [go_sem]
    have f0_4 : W.cell? ⟨w.heap.size, 4, none⟩ = some (.int .i64 m) := by rw [← hW]; simp [go_sem]
    have f1_0 : W.cell? ⟨w.heap.size + 1, 0, none⟩ = some (.int .i64 n) := by rw [← hW]; simp [go_sem]
    have f1_1 : W.cell? ⟨w.heap.size + 1, 1, none⟩ = some (.int .i64 k) := by rw [← hW]; simp [go_sem]
    have f2_0 : W.cell? ⟨w.heap.size + 2, 0, none⟩ = some (.int .i64 0) := by rw [← hW]; simp [go_sem]
    have f2_1 : W.cell? ⟨w.heap.size + 2, 1, none⟩ = some (.int .i64 0) := by rw [← hW]; simp [go_sem]
    have q1_0 : W.frozen? ⟨w.heap.size + 1, 0, none⟩ = false := by rw [← hW]; simp [go_sem]
    have q1_1 : W.frozen? ⟨w.heap.size + 1, 1, none⟩ = false := by rw [← hW]; simp [go_sem]
    have q2_0 : W.frozen? ⟨w.heap.size + 1 + 1, 0, none⟩ = false := by rw [← hW]; simp [go_sem]
    have q2_1 : W.frozen? ⟨w.heap.size + 1 + 1, 1, none⟩ = false := by rw [← hW]; simp [go_sem]
    clear hW
    have x0 := Ext.refl W
    go_wp2_with (first | (go_at_call 59; refine (l11Beat_any z u i l m n k _).mono ?_; rintro e w1 ⟨rfl, x1⟩; (try clear xc xf xs); (first | replace x0 := x0.trans x1 | replace x0 := (x0.alloc _).trans x1 | replace x0 := (x0.drew).trans x1 | replace x0 := (x0.drew.alloc _).trans x1 | replace x0 := (x0.alloc _).drew.trans x1 | replace x0 := ((x0.alloc _).alloc _).trans x1 | have x0 := x1); clear x1; obtain ⟨xc, xf, xs⟩ := x0.cells))
    exact bodyPost_ret (v := .tuple #[.agg #[.int .i64 0, .int .i64 0], .slice none 0 0, .int .i64 1]) (by simp [results, Try.results34, go_sem, *]) rfl ⟨_, al3 e1.out e2.out e4.out, (by rw [← e3.out]; exact World.ownsRow_nil _ _ _ _), by (repeat (first | exact hE.trans x0 | exact xw | exact xq | refine Ext.setCell ?_ (by simp; try omega) _ | refine Ext.alloc ?_ _))⟩
  go_enter Try.func34, Try.ntmps34
  go_wp2_with fail
  generalize hW : (((w.alloc (Obj.cells #[.int .i64 z, .int .i64 u, .int .i64 i, .int .i64 l, .int .i64 m] 25)).alloc (Obj.cells #[.int .i64 n, .int .i64 k] 31)).alloc (Obj.cells #[.int .i64 0, .int .i64 0] 31)) = W
  have hE : Ext w W := by rw [← hW]; exact ((((Ext.refl _).alloc _).alloc _).alloc _)
  have hl0 : w.heap.size < W.heap.size := by rw [← hW]; simp; try omega
  have hl1 : w.heap.size + 1 < W.heap.size := by rw [← hW]; simp; try omega
  have hl2 : w.heap.size + 2 < W.heap.size := by rw [← hW]; simp; try omega
  have f0_0 : W.cell? ⟨w.heap.size, 0, none⟩ = some (.int .i64 z) := by rw [← hW]; simp [go_sem]
  have f0_1 : W.cell? ⟨w.heap.size, 1, none⟩ = some (.int .i64 u) := by rw [← hW]; simp [go_sem]
  have f0_2 : W.cell? ⟨w.heap.size, 2, none⟩ = some (.int .i64 i) := by rw [← hW]; simp [go_sem]
  have f0_3 : W.cell? ⟨w.heap.size, 3, none⟩ = some (.int .i64 l) := by rw [← hW]; simp [go_sem]
  have f0_4 : W.cell? ⟨w.heap.size, 4, none⟩ = some (.int .i64 m) := by rw [← hW]; simp [go_sem]
  have f1_0 : W.cell? ⟨w.heap.size + 1, 0, none⟩ = some (.int .i64 n) := by rw [← hW]; simp [go_sem]
  have f1_1 : W.cell? ⟨w.heap.size + 1, 1, none⟩ = some (.int .i64 k) := by rw [← hW]; simp [go_sem]
  have f2_0 : W.cell? ⟨w.heap.size + 2, 0, none⟩ = some (.int .i64 0) := by rw [← hW]; simp [go_sem]
  have f2_1 : W.cell? ⟨w.heap.size + 2, 1, none⟩ = some (.int .i64 0) := by rw [← hW]; simp [go_sem]
  have q1_0 : W.frozen? ⟨w.heap.size + 1, 0, none⟩ = false := by rw [← hW]; simp [go_sem]
  have q1_1 : W.frozen? ⟨w.heap.size + 1, 1, none⟩ = false := by rw [← hW]; simp [go_sem]
  have q2_0 : W.frozen? ⟨w.heap.size + 1 + 1, 0, none⟩ = false := by rw [← hW]; simp [go_sem]
  have q2_1 : W.frozen? ⟨w.heap.size + 1 + 1, 1, none⟩ = false := by rw [← hW]; simp [go_sem]
  clear hW
  have x0 := Ext.refl W
  go_wp2_with (first | (go_at_call 59; refine (l11Beat_any z u i l m n k _).mono ?_; rintro e w1 ⟨rfl, x1⟩; (try clear xc xf xs); (first | replace x0 := x0.trans x1 | replace x0 := (x0.alloc _).trans x1 | replace x0 := (x0.drew).trans x1 | replace x0 := (x0.drew.alloc _).trans x1 | replace x0 := (x0.alloc _).drew.trans x1 | replace x0 := ((x0.alloc _).alloc _).trans x1 | have x0 := x1); clear x1; obtain ⟨xc, xf, xs⟩ := x0.cells))
  go_loopw [9, 10] (fun bb kk wr => ∃ (j : Nat) (b : Bool), kk = .int .i64 j ∧ bb = .bool b ∧ j ≤ N ∧ Ext W wr ∧ Hid (b = (decide (2000 < N) || !(List.range j).all (fun t => inB (qs.getD t 0) 0 1000)))) (fun _ kk _ => N - (intOf kk).toNat)
  case atStart => exact ⟨0, decide ((2000 : Int) < (N : Int)), rfl, by simp, Nat.zero_le _, x0, Lib.hid (by simp; omega)⟩
  case round =>
    clear x0; (try clear xc xf xs)
    obtain ⟨j, b, rfl, rfl, hj, x0, hh⟩ := hrel
    by_cases hlt : j < N
    · have t1 : decide ((j : Int) < (N : Int)) = true := by simp; omega
      cases b
      · obtain ⟨bb, off, rfl, hbb, q, hqe, cq⟩ := ((hr.ext hE).ext x0).look (j := j) (by omega)
        have hk := Lib.hid (show (!inB q 0 1000) = (decide (2000 < N) || !(List.range (j + 1)).all (fun t => inB (qs.getD t 0) 0 1000)) by
          rw [all_succ, ← hqe.out]
          have := hh.out
          revert this
          generalize (List.range j).all (fun t => inB (qs.getD t 0) 0 1000) = A
          generalize decide (2000 < N) = D
          cases A <;> cases D <;> simp)
        go_wp2_with (first | (go_at_call 66; refine (l00In_any _ _ _ _).mono ?_; rintro e w1 ⟨rfl, rfl⟩))
        go_roundw
        case rel => exact ⟨j + 1, _, by go_num, rfl, by omega, x0, hk⟩
        case measure => simp [intOf]; omega
      · have hk := Lib.hid (show true = (decide (2000 < N) || !(List.range (j + 1)).all (fun t => inB (qs.getD t 0) 0 1000)) by
          rw [all_succ]
          have := hh.out
          revert this
          generalize (List.range j).all (fun t => inB (qs.getD t 0) 0 1000) = A
          generalize decide (2000 < N) = D
          cases A <;> cases D <;> simp)
        go_wp2_with (first | (go_at_call 66; refine (l00In_any _ _ _ _).mono ?_; rintro e w1 ⟨rfl, rfl⟩))
        go_roundw
        case rel => exact ⟨j + 1, _, by go_num, rfl, by omega, x0, hk⟩
        case measure => simp [intOf]; omega
    · obtain rfl : N = j := by omega
      have t1 : decide ((N : Int) < (N : Int)) = false := by simp
      have hqk := okQs_def hn
      rw [← hh.out] at hqk
      clear hh
      cases b
      · have hq : okQs qs = true := by simpa using hqk
        have hc : cdA z u i l m qs n k = 0 := by simp [cdA, h1, hq]
        have g1 := Lib.hid (show alE z u i l m qs n k = ((alS u i l m qs n k qs.length).map (fun s => s.1)).getD 0 by rw [alE, if_pos hc])
        have g2 := Lib.hid (show alK z u i l m qs n k = ((alS u i l m qs n k qs.length).map (fun s => s.2.1)).getD 0 by rw [alK, if_pos hc])
        have g3 := Lib.hid (show alM z u i l m qs n k = ((alS u i l m qs n k qs.length).map (fun s => s.2.2)).getD [] by rw [alM, if_pos hc])
        have g4 := Lib.hid (show alC z u i l m qs n k = if (alS u i l m qs n k qs.length).isSome = true then 0 else 5 by rw [alC, if_pos hc])
        obtain ⟨ev, ⟨hn0, hk⟩, _⟩ := cdA_ok hc
        have hu := ev.bu; have hi := ev.bi; have hl := ev.bl
        have hm : 1 ≤ m ∧ m ≤ 100000 := by have := ev.bm; omega
        have hN2 : N ≤ 2000 := okQs_le hn hq
        clear hc h1 hqk
        replace hq := Lib.hid hq
        obtain ⟨V, hV⟩ : ∃ V, V = wr := ⟨_, rfl⟩
        replace hE := hE.trans x0
        replace f0_0 := (x0.cells.1 _ _ hl0).trans f0_0
        replace f0_1 := (x0.cells.1 _ _ hl0).trans f0_1
        replace f0_2 := (x0.cells.1 _ _ hl0).trans f0_2
        replace f0_3 := (x0.cells.1 _ _ hl0).trans f0_3
        replace f0_4 := (x0.cells.1 _ _ hl0).trans f0_4
        replace f1_0 := (x0.cells.1 _ _ hl1).trans f1_0
        replace f1_1 := (x0.cells.1 _ _ hl1).trans f1_1
        replace f2_0 := (x0.cells.1 _ _ hl2).trans f2_0
        replace f2_1 := (x0.cells.1 _ _ hl2).trans f2_1
        replace q1_0 := (x0.cells.2.1 _ _ hl1).trans q1_0
        replace q1_1 := (x0.cells.2.1 _ _ hl1).trans q1_1
        replace q2_0 := (x0.cells.2.1 _ _ hl2).trans q2_0
        replace q2_1 := (x0.cells.2.1 _ _ hl2).trans q2_1
        replace hl0 := Nat.lt_of_lt_of_le hl0 x0.size
        replace hl1 := Nat.lt_of_lt_of_le hl1 x0.size
        replace hl2 := Nat.lt_of_lt_of_le hl2 x0.size
        clear x0 hlt hj
        rw [← hV] at *
        clear hV
        go_wp2_with fail
        obtain ⟨B, hB⟩ : ∃ B, B = V.heap.size := ⟨_, rfl⟩
        have hst0 : (V.alloc (Obj.cells #[] 2)).ownsRow B 2 1 (.slice (some ⟨V.heap.size, 0, none⟩) 0 0) 0 [] := by
          have := World.ownsRow_made (w := V) (base := B) (e := 2) (size := 1) #[] 0 (by omega) (by decide) rfl
          simpa using this
        have hb0 : w.heap.size < B := by omega
        have hb1 : w.heap.size + 1 < B := by omega
        have hb2 : w.heap.size + 1 + 1 < B := by omega
        go_loopw [11, 12] (fun sv sj wr => ∃ (x y : Int) (j : Nat) (ms : List Int), sj = .int .i64 j ∧ j ≤ N ∧ (0 ≤ x ∧ x ≤ m) ∧ (0 ≤ y ∧ y ≤ 1000000000) ∧ ms.length ≤ j ∧ Ext w wr ∧ B ≤ wr.heap.size ∧ IntsOf wr B sv ms ∧ wr.cell? ⟨w.heap.size, 0, none⟩ = some (.int .i64 z) ∧ wr.cell? ⟨w.heap.size, 1, none⟩ = some (.int .i64 u) ∧ wr.cell? ⟨w.heap.size, 2, none⟩ = some (.int .i64 i) ∧ wr.cell? ⟨w.heap.size, 3, none⟩ = some (.int .i64 l) ∧ wr.cell? ⟨w.heap.size, 4, none⟩ = some (.int .i64 m) ∧ wr.cell? ⟨w.heap.size + 1, 0, none⟩ = some (.int .i64 x) ∧ wr.cell? ⟨w.heap.size + 1, 1, none⟩ = some (.int .i64 y) ∧ wr.cell? ⟨w.heap.size + 1 + 1, 0, none⟩ = some (.int .i64 0) ∧ wr.cell? ⟨w.heap.size + 1 + 1, 1, none⟩ = some (.int .i64 0) ∧ wr.frozen? ⟨w.heap.size + 1, 0, none⟩ = false ∧ wr.frozen? ⟨w.heap.size + 1, 1, none⟩ = false ∧ wr.frozen? ⟨w.heap.size + 1 + 1, 0, none⟩ = false ∧ wr.frozen? ⟨w.heap.size + 1 + 1, 1, none⟩ = false ∧ Hid (alS u i l m qs n k j = some (x, y, ms))) (fun _ sj _ => N - (intOf sj).toNat)
        case atStart => exact ⟨n, k, 0, [], rfl, Nat.zero_le _, hn0, hk, Nat.le_refl _, hE.alloc _, by simp; omega, hst0, ((((Ext.refl V).alloc _).cells.1 _ _ hl0).trans f0_0), ((((Ext.refl V).alloc _).cells.1 _ _ hl0).trans f0_1), ((((Ext.refl V).alloc _).cells.1 _ _ hl0).trans f0_2), ((((Ext.refl V).alloc _).cells.1 _ _ hl0).trans f0_3), ((((Ext.refl V).alloc _).cells.1 _ _ hl0).trans f0_4), ((((Ext.refl V).alloc _).cells.1 _ _ hl1).trans f1_0), ((((Ext.refl V).alloc _).cells.1 _ _ hl1).trans f1_1), ((((Ext.refl V).alloc _).cells.1 _ _ hl2).trans f2_0), ((((Ext.refl V).alloc _).cells.1 _ _ hl2).trans f2_1), ((((Ext.refl V).alloc _).cells.2.1 _ _ hl1).trans q1_0), ((((Ext.refl V).alloc _).cells.2.1 _ _ hl1).trans q1_1), ((((Ext.refl V).alloc _).cells.2.1 _ _ hl2).trans q2_0), ((((Ext.refl V).alloc _).cells.2.1 _ _ hl2).trans q2_1), Lib.hid rfl⟩
        case round =>
          clear hE hl0 hl1 hl2 hB f0_0 f0_1 f0_2 f0_3 f0_4 f1_0 f1_1 f2_0 f2_1 q1_0 q1_1 q2_0 q2_1 hst0
          skip
          obtain ⟨x, y, j, ms, rfl, hj, hx, hy, hms, xw, hBr, hown, c0_0, c0_1, c0_2, c0_3, c0_4, c1_0, c1_1, c2_0, c2_1, z1_0, z1_1, z2_0, z2_1, hh⟩ := hrel
          have hl0 : w.heap.size < wr.heap.size := by omega
          have hl1 : w.heap.size + 1 < wr.heap.size := by omega
          have hl2 : w.heap.size + 1 + 1 < wr.heap.size := by omega
          by_cases hlt : j < N
          · obtain ⟨bb, off, rfl, hbb, q, hqe, cq⟩ := ((hr.ext xw)).look (j := j) (by omega)
            have hq2 := okQs_at hq.out (j := j) (by omega)
            rw [hqe.out] at hq2
            have t1 : decide ((j : Int) < (N : Int)) = true := by simp; omega
            have t2 : (j : Int) < (N : Int) := by omega
            have nx := aE_bd (u := u) (i := i) (l := l) (m := m) (q := q) (x := x) (y := y) hu.1 hi.1 hl (by omega) hq2.1 hx
            have hxm : 0 ≤ x ∧ x ≤ 100000 := by omega
            cases hok : afOk u l q x y
            · have hmm : alS u i l m qs n k qs.length = none := alS_no hh.out (by rw [hqe.out]; exact hok) (by omega)
              have e1 := Lib.hid (show 0 = alE z u i l m qs n k by rw [g1.out, hmm]; rfl)
              have e2 := Lib.hid (show 0 = alK z u i l m qs n k by rw [g2.out, hmm]; rfl)
              have e3 := Lib.hid (show [] = alM z u i l m qs n k by rw [g3.out, hmm]; rfl)
              have e4 := Lib.hid (show 5 = alC z u i l m qs n k by rw [g4.out, hmm]; rfl)
              have a0 := aC_no (u := u) (l := l) (q := q) hok
              clear hmm hok nx
              go_upto_region 14 with fail
              have x0 := Ext.refl wr
              go_cut [13, 14, 15] (fun s13 s14 s15 wx => ∃ g : Nat, s13 = .pointer (some ⟨g, 0, none⟩) ∧ s14 = .bool (aT u l q x y) ∧ s15 = .int .i64 (aC u l q x y) ∧ Ext wr wx ∧ wr.heap.size ≤ g ∧ wx.cell? ⟨g, 0, none⟩ = some (.int .i64 (aE u i l m q x y)) ∧ wx.cell? ⟨g, 1, none⟩ = some (.int .i64 (aK u l q x y)))
              case first =>
                have hm0 := Nat.ne_of_gt hl0; have hm1 := Nat.ne_of_gt hl1; have hmb := Nat.ne_of_gt hbb
                go_region_held3 (fun w' => w'.cell? ⟨w.heap.size, 0, none⟩ = some (.int .i64 z) ∧ w'.cell? ⟨w.heap.size, 1, none⟩ = some (.int .i64 u) ∧ w'.cell? ⟨w.heap.size, 2, none⟩ = some (.int .i64 i) ∧ w'.cell? ⟨w.heap.size, 3, none⟩ = some (.int .i64 l) ∧ w'.cell? ⟨w.heap.size, 4, none⟩ = some (.int .i64 m) ∧ w'.cell? ⟨w.heap.size + 1, 0, none⟩ = some (.int .i64 x) ∧ w'.cell? ⟨w.heap.size + 1, 1, none⟩ = some (.int .i64 y) ∧ w'.cell? ⟨bb, off + j, none⟩ = some (.int .i64 q))
                  (first | (refine ⟨?_, ?_, ?_, ?_, ?_, ?_, ?_, ?_⟩ <;> (refine (xc _ _ ?_).trans ?_ <;> assumption)) | (refine ⟨?_, ?_, ?_, ?_, ?_, ?_, ?_, ?_⟩ <;> assumption) | go_keep)
                  (first | (go_at_call 37; refine (swing_ok z u i l m q x y _ ev hx hy hq2).mono ?_; rintro e w1 ⟨rfl, x1⟩; (try clear xc xf); obtain ⟨yc, yf, yl⟩ := x1.keeps; (first | have hn0 := Nat.lt_of_lt_of_le hn0 x1.size | have hn0 := Nat.lt_of_lt_of_le (lt_da wr _) x1.size | have hn0 := Nat.lt_of_lt_of_le (lt_ad wr _) x1.size | skip); (first | replace x0 := x0.trans x1 | replace x0 := (x0.alloc _).trans x1 | replace x0 := (x0.drew).trans x1 | replace x0 := (x0.drew.alloc _).trans x1 | replace x0 := (x0.alloc _).drew.trans x1 | replace x0 := ((x0.alloc _).alloc _).trans x1 | have x0 := x1); clear x1; obtain ⟨xc, xf, xs⟩ := x0.cells; have hm0 : w1.heap.size ≠ w.heap.size := (by omega); have hp0 : w.heap.size < w1.heap.size := (by omega); have hm1 : w1.heap.size ≠ w.heap.size + 1 := (by omega); have hp1 : w.heap.size + 1 < w1.heap.size := (by omega); have hm2 : w1.heap.size ≠ w.heap.size + 2 := (by omega); have hp2 : w.heap.size + 2 < w1.heap.size := (by omega); have hm_bb : w1.heap.size ≠ bb := (by omega)))
                all_goals (go_wp2_with fail; go_meet; refine ⟨_, rfl, (by first | rfl | (simp [*]; done)), (by first | rfl | (simp [*]; done)), ?_, ?_, ?_, ?_⟩)
                all_goals first | (simp [go_sem, *]; done) | (refine two0 _ _ _ _ ?_; simp [*]; done) | (refine two1 _ _ _ _ ?_; simp [*]; done) | (have := x0.size; simp at this; simp; omega) | (repeat (first | exact x0 | refine Ext.setCell ?_ (by simp; try omega) _ | refine Ext.alloc ?_ _ | refine Ext.drew ?_ | refine Ext.trans ?_ (by assumption)))
              case rest =>
              obtain ⟨g, rfl, rfl, rfl, x1, hg, d0, d1⟩ := hcut
              rename World => U
              clear x0
              replace c0_0 := (x1.cells.1 _ _ hl0).trans c0_0
              replace c0_1 := (x1.cells.1 _ _ hl0).trans c0_1
              replace c0_2 := (x1.cells.1 _ _ hl0).trans c0_2
              replace c0_3 := (x1.cells.1 _ _ hl0).trans c0_3
              replace c0_4 := (x1.cells.1 _ _ hl0).trans c0_4
              replace c1_0 := (x1.cells.1 _ _ hl1).trans c1_0
              replace c1_1 := (x1.cells.1 _ _ hl1).trans c1_1
              replace c2_0 := (x1.cells.1 _ _ hl2).trans c2_0
              replace c2_1 := (x1.cells.1 _ _ hl2).trans c2_1
              replace z1_0 := (x1.cells.2.1 _ _ hl1).trans z1_0
              replace z1_1 := (x1.cells.2.1 _ _ hl1).trans z1_1
              replace z2_0 := (x1.cells.2.1 _ _ hl2).trans z2_0
              replace z2_1 := (x1.cells.2.1 _ _ hl2).trans z2_1
              have hgU : g < U.heap.size := World.block_lt_of_cell? _ _ d0
              have xq := xw.trans x1
              replace hl0 := Nat.lt_of_lt_of_le hl0 x1.size
              replace hl1 := Nat.lt_of_lt_of_le hl1 x1.size
              replace hl2 := Nat.lt_of_lt_of_le hl2 x1.size
              have hk0 : w.heap.size ≠ g := by omega
              have hk1 : w.heap.size + 1 ≠ g := by omega
              have hk2 : w.heap.size + 1 + 1 ≠ g := by omega
              have hk0' : g ≠ w.heap.size := by omega
              have hk1' : g ≠ w.heap.size + 1 := by omega
              have hk2' : g ≠ w.heap.size + 1 + 1 := by omega
              go_wp2_with fail
              exact bodyPost_ret (v := .tuple #[.agg #[.int .i64 0, .int .i64 0], .slice none 0 0, .int .i64 5]) (by simp [results, Try.results34, go_sem, *]) rfl ⟨_, al3 e1.out e2.out e4.out, (by rw [← e3.out]; exact World.ownsRow_nil _ _ _ _), by (repeat (first | exact hE.trans x0 | exact xw | exact xq | refine Ext.setCell ?_ (by simp; try omega) _ | refine Ext.alloc ?_ _))⟩
            · have a0 := aC_yes (u := u) (l := l) (q := q) hok
              have ny := aK_bd (u := u) (l := l) (q := q) (x := x) hy hok
              cases ht : swT u l q x
              · have a1 : aT u l q x y = false := by simp [aT, hok, ht]
                have hmm := Lib.hid (alS_miss hh.out (by rw [hqe.out]; exact hok) (by rw [hqe.out]; exact ht))
                rw [hqe.out] at hmm
                have hne0 := off_row hown hb0
                have hne1 := off_row hown hb1
                have hne2 := off_row hown hb2
                clear hok ht
                have hneg := fun g (h : wr.heap.size ≤ g) => off_row' hown h
                go_upto_region 14 with fail
                have x0 := Ext.refl wr
                go_cut [13, 14, 15] (fun s13 s14 s15 wx => ∃ g : Nat, s13 = .pointer (some ⟨g, 0, none⟩) ∧ s14 = .bool (aT u l q x y) ∧ s15 = .int .i64 (aC u l q x y) ∧ Ext wr wx ∧ wr.heap.size ≤ g ∧ wx.cell? ⟨g, 0, none⟩ = some (.int .i64 (aE u i l m q x y)) ∧ wx.cell? ⟨g, 1, none⟩ = some (.int .i64 (aK u l q x y)))
                case first =>
                  have hm0 := Nat.ne_of_gt hl0; have hm1 := Nat.ne_of_gt hl1; have hmb := Nat.ne_of_gt hbb
                  go_region_held3 (fun w' => w'.cell? ⟨w.heap.size, 0, none⟩ = some (.int .i64 z) ∧ w'.cell? ⟨w.heap.size, 1, none⟩ = some (.int .i64 u) ∧ w'.cell? ⟨w.heap.size, 2, none⟩ = some (.int .i64 i) ∧ w'.cell? ⟨w.heap.size, 3, none⟩ = some (.int .i64 l) ∧ w'.cell? ⟨w.heap.size, 4, none⟩ = some (.int .i64 m) ∧ w'.cell? ⟨w.heap.size + 1, 0, none⟩ = some (.int .i64 x) ∧ w'.cell? ⟨w.heap.size + 1, 1, none⟩ = some (.int .i64 y) ∧ w'.cell? ⟨bb, off + j, none⟩ = some (.int .i64 q))
                    (first | (refine ⟨?_, ?_, ?_, ?_, ?_, ?_, ?_, ?_⟩ <;> (refine (xc _ _ ?_).trans ?_ <;> assumption)) | (refine ⟨?_, ?_, ?_, ?_, ?_, ?_, ?_, ?_⟩ <;> assumption) | go_keep)
                    (first | (go_at_call 37; refine (swing_ok z u i l m q x y _ ev hx hy hq2).mono ?_; rintro e w1 ⟨rfl, x1⟩; (try clear xc xf); obtain ⟨yc, yf, yl⟩ := x1.keeps; (first | have hn0 := Nat.lt_of_lt_of_le hn0 x1.size | have hn0 := Nat.lt_of_lt_of_le (lt_da wr _) x1.size | have hn0 := Nat.lt_of_lt_of_le (lt_ad wr _) x1.size | skip); (first | replace x0 := x0.trans x1 | replace x0 := (x0.alloc _).trans x1 | replace x0 := (x0.drew).trans x1 | replace x0 := (x0.drew.alloc _).trans x1 | replace x0 := (x0.alloc _).drew.trans x1 | replace x0 := ((x0.alloc _).alloc _).trans x1 | have x0 := x1); clear x1; obtain ⟨xc, xf, xs⟩ := x0.cells; have hm0 : w1.heap.size ≠ w.heap.size := (by omega); have hp0 : w.heap.size < w1.heap.size := (by omega); have hm1 : w1.heap.size ≠ w.heap.size + 1 := (by omega); have hp1 : w.heap.size + 1 < w1.heap.size := (by omega); have hm2 : w1.heap.size ≠ w.heap.size + 2 := (by omega); have hp2 : w.heap.size + 2 < w1.heap.size := (by omega); have hm_bb : w1.heap.size ≠ bb := (by omega)))
                  all_goals (go_wp2_with fail; go_meet; refine ⟨_, rfl, (by first | rfl | (simp [*]; done)), (by first | rfl | (simp [*]; done)), ?_, ?_, ?_, ?_⟩)
                  all_goals first | (simp [go_sem, *]; done) | (refine two0 _ _ _ _ ?_; simp [*]; done) | (refine two1 _ _ _ _ ?_; simp [*]; done) | (have := x0.size; simp at this; simp; omega) | (repeat (first | exact x0 | refine Ext.setCell ?_ (by simp; try omega) _ | refine Ext.alloc ?_ _ | refine Ext.drew ?_ | refine Ext.trans ?_ (by assumption)))
                case rest =>
                obtain ⟨g, rfl, rfl, rfl, x1, hg, d0, d1⟩ := hcut
                rename World => U
                clear x0
                replace c0_0 := (x1.cells.1 _ _ hl0).trans c0_0
                replace c0_1 := (x1.cells.1 _ _ hl0).trans c0_1
                replace c0_2 := (x1.cells.1 _ _ hl0).trans c0_2
                replace c0_3 := (x1.cells.1 _ _ hl0).trans c0_3
                replace c0_4 := (x1.cells.1 _ _ hl0).trans c0_4
                replace c1_0 := (x1.cells.1 _ _ hl1).trans c1_0
                replace c1_1 := (x1.cells.1 _ _ hl1).trans c1_1
                replace c2_0 := (x1.cells.1 _ _ hl2).trans c2_0
                replace c2_1 := (x1.cells.1 _ _ hl2).trans c2_1
                replace z1_0 := (x1.cells.2.1 _ _ hl1).trans z1_0
                replace z1_1 := (x1.cells.2.1 _ _ hl1).trans z1_1
                replace z2_0 := (x1.cells.2.1 _ _ hl2).trans z2_0
                replace z2_1 := (x1.cells.2.1 _ _ hl2).trans z2_1
                have hgU : g < U.heap.size := World.block_lt_of_cell? _ _ d0
                have xq := xw.trans x1
                replace hl0 := Nat.lt_of_lt_of_le hl0 x1.size
                replace hl1 := Nat.lt_of_lt_of_le hl1 x1.size
                replace hl2 := Nat.lt_of_lt_of_le hl2 x1.size
                have hk0 : w.heap.size ≠ g := by omega
                have hk1 : w.heap.size + 1 ≠ g := by omega
                have hk2 : w.heap.size + 1 + 1 ≠ g := by omega
                have hk0' : g ≠ w.heap.size := by omega
                have hk1' : g ≠ w.heap.size + 1 := by omega
                have hk2' : g ≠ w.heap.size + 1 + 1 := by omega
                replace hneg := hneg g hg
                replace hown := hown.ext x1
                go_upto_region 18 with fail
                obtain ⟨i0, hii, hz0, hz1, hz2⟩ := int_info
                go_wp2_with (at_builtin; refine wpList_append_wrote _ rfl _ _ 48 rfl B 2 i0 (.int .i64 0) 1 8 Try.underlying48 hii hz0 hz1 hz2 rfl (by decide) _ _ _ rfl (hown.ext ((Ext.refl _).alloc _)) ⟨U.heap.size, 0, none⟩ 1 1 [.int .i64 j] rfl rfl (one_new _ _ rfl) (one_cell _) ?c3 ?c4 ?c5 ?_)
                case c3 => unfold maxLen; omega
                case c4 => omega
                case c5 => have := x1.size; simp; omega
                intro v' w2 h2 hw
                replace h2 := IntsOf.push h2 rfl
                replace hw := (Wrote.alloc _ _ _).trans hw
                replace c0_0 := (hw.cell hl0 hne0).trans c0_0
                replace c0_1 := (hw.cell hl0 hne0).trans c0_1
                replace c0_2 := (hw.cell hl0 hne0).trans c0_2
                replace c0_3 := (hw.cell hl0 hne0).trans c0_3
                replace c0_4 := (hw.cell hl0 hne0).trans c0_4
                replace c1_0 := (hw.cell hl1 hne1).trans c1_0
                replace c1_1 := (hw.cell hl1 hne1).trans c1_1
                replace c2_0 := (hw.cell hl2 hne2).trans c2_0
                replace c2_1 := (hw.cell hl2 hne2).trans c2_1
                replace z1_0 := (hw.free hl1 hne1).trans z1_0
                replace z1_1 := (hw.free hl1 hne1).trans z1_1
                replace z2_0 := (hw.free hl2 hne2).trans z2_0
                replace z2_1 := (hw.free hl2 hne2).trans z2_1
                replace d0 := (hw.cell hgU hneg).trans d0
                replace d1 := (hw.cell hgU hneg).trans d1
                replace xq := hw.ext xq (fun k hk => by have := (hown.lt k hk).1; omega)
                have hs2 := hw.size
                replace hms : (ms ++ [(j : Int)]).length ≤ j + 1 := by simp; omega
                clear hw hown hii hz0 hz1 hz2
                replace hl0 := Nat.lt_of_lt_of_le hl0 hs2
                replace hl1 := Nat.lt_of_lt_of_le hl1 hs2
                replace hl2 := Nat.lt_of_lt_of_le hl2 hs2
                go_wp2_with fail
                go_roundw
                case rel =>
                  refine ⟨_, _, j + 1, _, by go_num, by omega, nx, ny, ?_, ?_, ?_, ?_, ?_, ?_, ?_, ?_, ?_, ?_, ?_, ?_, ?_, ?_, ?_, ?_, ?_, hmm⟩
                  · first | exact hms | omega
                  · exact (xq.setCell (by simp) _).setCell (by simp) _
                  · simp [World.setCell]; omega
                  · exact (h2.other hb1 _).other hb1 _
                  all_goals simp [go_sem, *]
                case measure => simp [intOf]; omega
              · have a1 : aT u l q x y = true := by simp [aT, hok, ht]
                have hmm := Lib.hid (alS_tick hh.out (by rw [hqe.out]; exact hok) (by rw [hqe.out]; exact ht))
                rw [hqe.out] at hmm
                clear hok ht
                go_upto_region 14 with fail
                have x0 := Ext.refl wr
                go_cut [13, 14, 15] (fun s13 s14 s15 wx => ∃ g : Nat, s13 = .pointer (some ⟨g, 0, none⟩) ∧ s14 = .bool (aT u l q x y) ∧ s15 = .int .i64 (aC u l q x y) ∧ Ext wr wx ∧ wr.heap.size ≤ g ∧ wx.cell? ⟨g, 0, none⟩ = some (.int .i64 (aE u i l m q x y)) ∧ wx.cell? ⟨g, 1, none⟩ = some (.int .i64 (aK u l q x y)))
                case first =>
                  have hm0 := Nat.ne_of_gt hl0; have hm1 := Nat.ne_of_gt hl1; have hmb := Nat.ne_of_gt hbb
                  go_region_held3 (fun w' => w'.cell? ⟨w.heap.size, 0, none⟩ = some (.int .i64 z) ∧ w'.cell? ⟨w.heap.size, 1, none⟩ = some (.int .i64 u) ∧ w'.cell? ⟨w.heap.size, 2, none⟩ = some (.int .i64 i) ∧ w'.cell? ⟨w.heap.size, 3, none⟩ = some (.int .i64 l) ∧ w'.cell? ⟨w.heap.size, 4, none⟩ = some (.int .i64 m) ∧ w'.cell? ⟨w.heap.size + 1, 0, none⟩ = some (.int .i64 x) ∧ w'.cell? ⟨w.heap.size + 1, 1, none⟩ = some (.int .i64 y) ∧ w'.cell? ⟨bb, off + j, none⟩ = some (.int .i64 q))
                    (first | (refine ⟨?_, ?_, ?_, ?_, ?_, ?_, ?_, ?_⟩ <;> (refine (xc _ _ ?_).trans ?_ <;> assumption)) | (refine ⟨?_, ?_, ?_, ?_, ?_, ?_, ?_, ?_⟩ <;> assumption) | go_keep)
                    (first | (go_at_call 37; refine (swing_ok z u i l m q x y _ ev hx hy hq2).mono ?_; rintro e w1 ⟨rfl, x1⟩; (try clear xc xf); obtain ⟨yc, yf, yl⟩ := x1.keeps; (first | have hn0 := Nat.lt_of_lt_of_le hn0 x1.size | have hn0 := Nat.lt_of_lt_of_le (lt_da wr _) x1.size | have hn0 := Nat.lt_of_lt_of_le (lt_ad wr _) x1.size | skip); (first | replace x0 := x0.trans x1 | replace x0 := (x0.alloc _).trans x1 | replace x0 := (x0.drew).trans x1 | replace x0 := (x0.drew.alloc _).trans x1 | replace x0 := (x0.alloc _).drew.trans x1 | replace x0 := ((x0.alloc _).alloc _).trans x1 | have x0 := x1); clear x1; obtain ⟨xc, xf, xs⟩ := x0.cells; have hm0 : w1.heap.size ≠ w.heap.size := (by omega); have hp0 : w.heap.size < w1.heap.size := (by omega); have hm1 : w1.heap.size ≠ w.heap.size + 1 := (by omega); have hp1 : w.heap.size + 1 < w1.heap.size := (by omega); have hm2 : w1.heap.size ≠ w.heap.size + 2 := (by omega); have hp2 : w.heap.size + 2 < w1.heap.size := (by omega); have hm_bb : w1.heap.size ≠ bb := (by omega)))
                  all_goals (go_wp2_with fail; go_meet; refine ⟨_, rfl, (by first | rfl | (simp [*]; done)), (by first | rfl | (simp [*]; done)), ?_, ?_, ?_, ?_⟩)
                  all_goals first | (simp [go_sem, *]; done) | (refine two0 _ _ _ _ ?_; simp [*]; done) | (refine two1 _ _ _ _ ?_; simp [*]; done) | (have := x0.size; simp at this; simp; omega) | (repeat (first | exact x0 | refine Ext.setCell ?_ (by simp; try omega) _ | refine Ext.alloc ?_ _ | refine Ext.drew ?_ | refine Ext.trans ?_ (by assumption)))
                case rest =>
                obtain ⟨g, rfl, rfl, rfl, x1, hg, d0, d1⟩ := hcut
                rename World => U
                clear x0
                replace c0_0 := (x1.cells.1 _ _ hl0).trans c0_0
                replace c0_1 := (x1.cells.1 _ _ hl0).trans c0_1
                replace c0_2 := (x1.cells.1 _ _ hl0).trans c0_2
                replace c0_3 := (x1.cells.1 _ _ hl0).trans c0_3
                replace c0_4 := (x1.cells.1 _ _ hl0).trans c0_4
                replace c1_0 := (x1.cells.1 _ _ hl1).trans c1_0
                replace c1_1 := (x1.cells.1 _ _ hl1).trans c1_1
                replace c2_0 := (x1.cells.1 _ _ hl2).trans c2_0
                replace c2_1 := (x1.cells.1 _ _ hl2).trans c2_1
                replace z1_0 := (x1.cells.2.1 _ _ hl1).trans z1_0
                replace z1_1 := (x1.cells.2.1 _ _ hl1).trans z1_1
                replace z2_0 := (x1.cells.2.1 _ _ hl2).trans z2_0
                replace z2_1 := (x1.cells.2.1 _ _ hl2).trans z2_1
                have hgU : g < U.heap.size := World.block_lt_of_cell? _ _ d0
                have xq := xw.trans x1
                replace hl0 := Nat.lt_of_lt_of_le hl0 x1.size
                replace hl1 := Nat.lt_of_lt_of_le hl1 x1.size
                replace hl2 := Nat.lt_of_lt_of_le hl2 x1.size
                have hk0 : w.heap.size ≠ g := by omega
                have hk1 : w.heap.size + 1 ≠ g := by omega
                have hk2 : w.heap.size + 1 + 1 ≠ g := by omega
                have hk0' : g ≠ w.heap.size := by omega
                have hk1' : g ≠ w.heap.size + 1 := by omega
                have hk2' : g ≠ w.heap.size + 1 + 1 := by omega
                replace hown := hown.ext x1
                go_wp2_with fail
                go_roundw
                case rel =>
                  refine ⟨_, _, j + 1, _, by go_num, by omega, nx, ny, ?_, ?_, ?_, ?_, ?_, ?_, ?_, ?_, ?_, ?_, ?_, ?_, ?_, ?_, ?_, ?_, ?_, hmm⟩
                  · first | exact hms | omega
                  · exact (xq.setCell (by simp) _).setCell (by simp) _
                  · simp [World.setCell]; omega
                  · exact (hown.other hb1 _).other hb1 _
                  all_goals simp [go_sem, *]
                case measure => simp [intOf]; omega
          · obtain rfl : N = j := by omega
            have hqn : qs.length = N := by omega
            rw [← hqn] at hh
            have e1 := Lib.hid (show x = alE z u i l m qs n k by rw [g1.out, hh.out]; rfl)
            have e2 := Lib.hid (show y = alK z u i l m qs n k by rw [g2.out, hh.out]; rfl)
            have e3 := Lib.hid (show ms = alM z u i l m qs n k by rw [g3.out, hh.out]; rfl)
            have e4 := Lib.hid (show 0 = alC z u i l m qs n k by rw [g4.out, hh.out]; rfl)
            have t1 : decide ((N : Int) < (N : Int)) = false := by simp
            obtain ⟨va, vc, rfl⟩ := hown.shape
            replace hown := Lib.hid hown
            clear hr hqn
            go_wp2_with fail
            exact bodyPost_ret (v := .tuple #[.agg #[.int .i64 x, .int .i64 y], .slice va ms.length vc, .int .i64 0]) (by simp [results, Try.results34, go_sem, *]) rfl ⟨_, al3 e1.out e2.out e4.out, (by rw [← e3.out]; exact own_base ((hown.out.other hb2 _).other hb2 _) (by omega)), by (repeat (first | exact hE.trans x0 | exact xw | exact xq | refine Ext.setCell ?_ (by simp; try omega) _ | refine Ext.alloc ?_ _))⟩
      · have hq : okQs qs = false := by simpa using hqk
        have hc : cdA z u i l m qs n k = 2 := by simp [cdA, h1, hq]
        have e1 := Lib.hid (show 0 = alE z u i l m qs n k by simp [alE, hc])
        have e2 := Lib.hid (show 0 = alK z u i l m qs n k by simp [alK, hc])
        have e3 := Lib.hid (show [] = alM z u i l m qs n k by simp [alM, hc])
        have e4 := Lib.hid (show 2 = alC z u i l m qs n k by simp [alC, hc])
        clear hc
        have v2_0 := (x0.cells.1 _ _ hl2).trans f2_0
        have v2_1 := (x0.cells.1 _ _ hl2).trans f2_1
        have v3_0 := (x0.cells.2.1 _ _ hl2).trans q2_0
        have v3_1 := (x0.cells.2.1 _ _ hl2).trans q2_1
        clear hq hqk
        go_wp2_with fail
        exact bodyPost_ret (v := .tuple #[.agg #[.int .i64 0, .int .i64 0], .slice none 0 0, .int .i64 2]) (by simp [results, Try.results34, go_sem, *]) rfl ⟨_, al3 e1.out e2.out e4.out, (by rw [← e3.out]; exact World.ownsRow_nil _ _ _ _), by (repeat (first | exact hE.trans x0 | exact xw | exact xq | refine Ext.setCell ?_ (by simp; try omega) _ | refine Ext.alloc ?_ _))⟩
end Go.Proofs.Ytehebhphlaghfaa
