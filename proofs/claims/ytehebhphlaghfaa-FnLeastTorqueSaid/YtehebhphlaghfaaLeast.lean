/-
  The least torque and the least start.
-/
import Derived.Test.YtehebhphlaghfaaSearch
import Derived.Test.YtehebhphlaghfaaSilent
namespace Go.Proofs.Ytehebhphlaghfaa
open Go.RowKit
set_option linter.unusedSimpArgs false
set_option linter.unusedVariables false

set_option maxHeartbeats 1000000 in
theorem ltFn_any (z u i l m n k : Int) (N t : Nat) (B : Nat) (w : World) (hu : 1 ≤ u ∧ u ≤ 100000) (hi : 0 ≤ i ∧ i ≤ 100000) (hl : 0 ≤ l ∧ l ≤ 1000) (hm : 1 ≤ m ∧ m ≤ 100000) (hn : 0 ≤ n ∧ n ≤ m) (hN : N ≤ 2000) (ht : t < 1001)
    (l0 : B < w.heap.size) (l1 : B + 1 < w.heap.size) (l2 : B + 1 + 1 < w.heap.size) (f0_0 : w.cell? ⟨B, 0, none⟩ = some (.int .i64 z)) (f0_1 : w.cell? ⟨B, 1, none⟩ = some (.int .i64 u)) (f0_2 : w.cell? ⟨B, 2, none⟩ = some (.int .i64 i)) (f0_3 : w.cell? ⟨B, 3, none⟩ = some (.int .i64 l)) (f0_4 : w.cell? ⟨B, 4, none⟩ = some (.int .i64 m)) (f1_0 : w.cell? ⟨B + 1, 0, none⟩ = some (.int .i64 N)) (f2_0 : w.cell? ⟨B + 1 + 1, 0, none⟩ = some (.int .i64 n)) (f2_1 : w.cell? ⟨B + 1 + 1, 1, none⟩ = some (.int .i64 k)) :
    Calls Try.prog 80 (#[.int .i64 t] ++ #[.pointer (some ⟨B, 0, none⟩), .pointer (some ⟨B + 1 + 1, 0, none⟩), .pointer (some ⟨B + 1, 0, none⟩)]) w fun e w' => e = .returned (.bool (ltP u i l m n N t)) ∧ Ext w w' := by
  have e := Lib.hid (show (sil u i l m t N n == N) = ltP u i l m n N t from rfl)
  have x0 := Ext.refl w
  go_enter Try.func80, Try.ntmps80
  go_wp2_with fail
  go_region_held3 (fun w' => w'.cell? ⟨B, 0, none⟩ = some (.int .i64 z) ∧ w'.cell? ⟨B, 1, none⟩ = some (.int .i64 u) ∧ w'.cell? ⟨B, 2, none⟩ = some (.int .i64 i) ∧ w'.cell? ⟨B, 3, none⟩ = some (.int .i64 l) ∧ w'.cell? ⟨B, 4, none⟩ = some (.int .i64 m) ∧ w'.cell? ⟨B + 1, 0, none⟩ = some (.int .i64 N) ∧ w'.cell? ⟨B + 1 + 1, 0, none⟩ = some (.int .i64 n) ∧ w'.cell? ⟨B + 1 + 1, 1, none⟩ = some (.int .i64 k))
    (first | (refine ⟨?_, ?_, ?_, ?_, ?_, ?_, ?_, ?_⟩ <;> (refine (xc _ _ ?_).trans ?_ <;> assumption)) | (refine ⟨?_, ?_, ?_, ?_, ?_, ?_, ?_, ?_⟩ <;> assumption) | go_keep)
    (first | (go_at_call 68; refine (silentAfter_any z u i l m t n N _ hu hi hl hm (by omega) (by omega) (by omega)).mono ?_; rintro e w1 ⟨rfl, x1⟩; (try clear xc xf xs); (first | replace x0 := x0.trans x1 | replace x0 := (x0.alloc _).trans x1 | replace x0 := (x0.drew).trans x1 | replace x0 := (x0.drew.alloc _).trans x1 | replace x0 := (x0.alloc _).drew.trans x1 | replace x0 := ((x0.alloc _).alloc _).trans x1 | have x0 := x1); clear x1; obtain ⟨xc, xf, xs⟩ := x0.cells))
  go_wp2_with fail
  go_ret
  exact ⟨ret_bool e.out, by first | exact x0 | exact x0.drew | exact x0.drewN _⟩

set_option maxHeartbeats 1000000 in
theorem lsFn_any (z u i l m q : Int) (N x : Nat) (B : Nat) (w : World) (hu : 1 ≤ u ∧ u ≤ 100000) (hi : 0 ≤ i ∧ i ≤ 100000) (hl : 0 ≤ l ∧ l ≤ 1000) (hm : 1 ≤ m ∧ m ≤ 100000) (hq : 0 ≤ q ∧ q ≤ 1000) (hN : N ≤ 2000) (hx : x < (m + 1).toNat)
    (l0 : B < w.heap.size) (l1 : B + 1 < w.heap.size) (l2 : B + 1 + 1 < w.heap.size) (f0_0 : w.cell? ⟨B, 0, none⟩ = some (.int .i64 z)) (f0_1 : w.cell? ⟨B, 1, none⟩ = some (.int .i64 u)) (f0_2 : w.cell? ⟨B, 2, none⟩ = some (.int .i64 i)) (f0_3 : w.cell? ⟨B, 3, none⟩ = some (.int .i64 l)) (f0_4 : w.cell? ⟨B, 4, none⟩ = some (.int .i64 m)) (f1_0 : w.cell? ⟨B + 1, 0, none⟩ = some (.int .i64 q)) (f2_0 : w.cell? ⟨B + 1 + 1, 0, none⟩ = some (.int .i64 N)) :
    Calls Try.prog 79 (#[.int .i64 x] ++ #[.pointer (some ⟨B, 0, none⟩), .pointer (some ⟨B + 1, 0, none⟩), .pointer (some ⟨B + 1 + 1, 0, none⟩)]) w fun e w' => e = .returned (.bool (lsP u i l m q N x)) ∧ Ext w w' := by
  have e := Lib.hid (show (sil u i l m q N x == N) = lsP u i l m q N x from rfl)
  have x0 := Ext.refl w
  go_enter Try.func79, Try.ntmps79
  go_wp2_with fail
  go_region_held3 (fun w' => w'.cell? ⟨B, 0, none⟩ = some (.int .i64 z) ∧ w'.cell? ⟨B, 1, none⟩ = some (.int .i64 u) ∧ w'.cell? ⟨B, 2, none⟩ = some (.int .i64 i) ∧ w'.cell? ⟨B, 3, none⟩ = some (.int .i64 l) ∧ w'.cell? ⟨B, 4, none⟩ = some (.int .i64 m) ∧ w'.cell? ⟨B + 1, 0, none⟩ = some (.int .i64 q) ∧ w'.cell? ⟨B + 1 + 1, 0, none⟩ = some (.int .i64 N))
    (first | (refine ⟨?_, ?_, ?_, ?_, ?_, ?_, ?_⟩ <;> (refine (xc _ _ ?_).trans ?_ <;> assumption)) | (refine ⟨?_, ?_, ?_, ?_, ?_, ?_, ?_⟩ <;> assumption) | go_keep)
    (first | (go_at_call 68; refine (silentAfter_any z u i l m q x N _ hu hi hl hm (by omega) (by omega) (by omega)).mono ?_; rintro e w1 ⟨rfl, x1⟩; (try clear xc xf xs); (first | replace x0 := x0.trans x1 | replace x0 := (x0.alloc _).trans x1 | replace x0 := (x0.drew).trans x1 | replace x0 := (x0.drew.alloc _).trans x1 | replace x0 := (x0.alloc _).drew.trans x1 | replace x0 := ((x0.alloc _).alloc _).trans x1 | have x0 := x1); clear x1; obtain ⟨xc, xf, xs⟩ := x0.cells))
  go_wp2_with fail
  go_ret
  exact ⟨ret_bool e.out, by first | exact x0 | exact x0.drew | exact x0.drewN _⟩

set_option maxHeartbeats 4000000 in
theorem implLeastTorque_any (z u i l m N n k : Int) (w : World) :
    Calls Try.prog 45 #[.agg #[.int .i64 z, .int .i64 u, .int .i64 i, .int .i64 l, .int .i64 m], .int .i64 N, .agg #[.int .i64 n, .int .i64 k]] w fun e w' => e = .returned (.tuple #[.int .i64 (ltR z u i l m N n k), .int .i64 (ltC z u i l m N n k)]) ∧ Ext w w' := by
  cases h1 : vBeat z u i l m n k
  · have hc : ltCd z u i l m N n k = 1 := by simp [ltCd, h1]
    have e1 := Lib.hid (show 0 = ltR z u i l m N n k by simp [ltR, hc])
    have e2 := Lib.hid (show 1 = ltC z u i l m N n k by simp [ltC, hc])
    clear hc
    go_enter Try.func45, Try.ntmps45
    go_wp2_with fail
    generalize hW : (((w.alloc (Obj.cells #[.int .i64 z, .int .i64 u, .int .i64 i, .int .i64 l, .int .i64 m] 25)).alloc (Obj.cells #[.int .i64 N] 2)).alloc (Obj.cells #[.int .i64 n, .int .i64 k] 31)) = W
    have hE : Ext w W := by rw [← hW]; exact ((((Ext.refl _).alloc _).alloc _).alloc _)
    have hl0 : w.heap.size < W.heap.size := by rw [← hW]; simp; try omega
    have hl1 : w.heap.size + 1 < W.heap.size := by rw [← hW]; simp; try omega
    have hl2 : w.heap.size + 2 < W.heap.size := by rw [← hW]; simp; try omega
    have f0_0 : W.cell? ⟨w.heap.size, 0, none⟩ = some (.int .i64 z) := by rw [← hW]; simp [go_sem]
    have f0_1 : W.cell? ⟨w.heap.size, 1, none⟩ = some (.int .i64 u) := by rw [← hW]; simp [go_sem]
    have f0_2 : W.cell? ⟨w.heap.size, 2, none⟩ = some (.int .i64 i) := by rw [← hW]; simp [go_sem]
    have f0_3 : W.cell? ⟨w.heap.size, 3, none⟩ = some (.int .i64 l) := by rw [← hW]; simp [go_sem]
    have f0_4 : W.cell? ⟨w.heap.size, 4, none⟩ = some (.int .i64 m) := by rw [← hW]; simp [go_sem]
    have f1_0 : W.cell? ⟨w.heap.size + 1, 0, none⟩ = some (.int .i64 N) := by rw [← hW]; simp [go_sem]
    have f2_0 : W.cell? ⟨w.heap.size + 2, 0, none⟩ = some (.int .i64 n) := by rw [← hW]; simp [go_sem]
    have f2_1 : W.cell? ⟨w.heap.size + 2, 1, none⟩ = some (.int .i64 k) := by rw [← hW]; simp [go_sem]
    clear hW
    have x0 := Ext.refl W
    go_wp2_with (first | (go_at_call 23; refine (implValidBeat_any z u i l m n k _).mono ?_; rintro e w1 ⟨rfl, x1⟩; (try clear xc xf xs); (first | replace x0 := x0.trans x1 | replace x0 := (x0.alloc _).trans x1 | replace x0 := (x0.drew).trans x1 | replace x0 := (x0.drew.alloc _).trans x1 | replace x0 := (x0.alloc _).drew.trans x1 | replace x0 := ((x0.alloc _).alloc _).trans x1 | have x0 := x1); clear x1; obtain ⟨xc, xf, xs⟩ := x0.cells) | (go_at_call 58; refine (within_any _ _ _ _).mono ?_; rintro e w1 ⟨rfl, rfl⟩))
    go_ret2
    exact ⟨ret2 e1.out e2.out, hE.trans x0⟩
  · skip
    cases h2 : inB N 1 2000
    · have hc : ltCd z u i l m N n k = 2 := by simp [ltCd, h1, h2]
      have e1 := Lib.hid (show 0 = ltR z u i l m N n k by simp [ltR, hc])
      have e2 := Lib.hid (show 2 = ltC z u i l m N n k by simp [ltC, hc])
      clear hc
      go_enter Try.func45, Try.ntmps45
      go_wp2_with fail
      generalize hW : (((w.alloc (Obj.cells #[.int .i64 z, .int .i64 u, .int .i64 i, .int .i64 l, .int .i64 m] 25)).alloc (Obj.cells #[.int .i64 N] 2)).alloc (Obj.cells #[.int .i64 n, .int .i64 k] 31)) = W
      have hE : Ext w W := by rw [← hW]; exact ((((Ext.refl _).alloc _).alloc _).alloc _)
      have hl0 : w.heap.size < W.heap.size := by rw [← hW]; simp; try omega
      have hl1 : w.heap.size + 1 < W.heap.size := by rw [← hW]; simp; try omega
      have hl2 : w.heap.size + 2 < W.heap.size := by rw [← hW]; simp; try omega
      have f0_0 : W.cell? ⟨w.heap.size, 0, none⟩ = some (.int .i64 z) := by rw [← hW]; simp [go_sem]
      have f0_1 : W.cell? ⟨w.heap.size, 1, none⟩ = some (.int .i64 u) := by rw [← hW]; simp [go_sem]
      have f0_2 : W.cell? ⟨w.heap.size, 2, none⟩ = some (.int .i64 i) := by rw [← hW]; simp [go_sem]
      have f0_3 : W.cell? ⟨w.heap.size, 3, none⟩ = some (.int .i64 l) := by rw [← hW]; simp [go_sem]
      have f0_4 : W.cell? ⟨w.heap.size, 4, none⟩ = some (.int .i64 m) := by rw [← hW]; simp [go_sem]
      have f1_0 : W.cell? ⟨w.heap.size + 1, 0, none⟩ = some (.int .i64 N) := by rw [← hW]; simp [go_sem]
      have f2_0 : W.cell? ⟨w.heap.size + 2, 0, none⟩ = some (.int .i64 n) := by rw [← hW]; simp [go_sem]
      have f2_1 : W.cell? ⟨w.heap.size + 2, 1, none⟩ = some (.int .i64 k) := by rw [← hW]; simp [go_sem]
      clear hW
      have x0 := Ext.refl W
      go_wp2_with (first | (go_at_call 23; refine (implValidBeat_any z u i l m n k _).mono ?_; rintro e w1 ⟨rfl, x1⟩; (try clear xc xf xs); (first | replace x0 := x0.trans x1 | replace x0 := (x0.alloc _).trans x1 | replace x0 := (x0.drew).trans x1 | replace x0 := (x0.drew.alloc _).trans x1 | replace x0 := (x0.alloc _).drew.trans x1 | replace x0 := ((x0.alloc _).alloc _).trans x1 | have x0 := x1); clear x1; obtain ⟨xc, xf, xs⟩ := x0.cells) | (go_at_call 58; refine (within_any _ _ _ _).mono ?_; rintro e w1 ⟨rfl, rfl⟩))
      go_ret2
      exact ⟨ret2 e1.out e2.out, hE.trans x0⟩
    · skip
      have hc : ltCd z u i l m N n k = 0 := by simp [ltCd, h1, h2]
      have hv := h1
      simp only [vBeat, Bool.and_eq_true] at hv
      have ev := vEsc_iff.1 hv.1
      have hn := (vBt_iff.1 hv.2).1
      have hu := ev.bu; have hi := ev.bi; have hl := ev.bl
      have hm : 1 ≤ m ∧ m ≤ 100000 := by have := ev.bm; omega
      have hN := inB_iff.1 h2
      clear ev hv
      have hmm := Lib.hid (show ((1001 : Nat) : Int) = 1001 from rfl)
      have eg : ∀ args w, (callFunc 80 args).run Try.prog w = .ok (.enter 80 args) w := enters_of Try.func80 (by kernel_rfl) rfl
      have hqe : leastN (ltP u i l m n N.toNat) (1001) = ltQ u i l m N n := rfl
      have hmo := Lib.hid (show ∀ a b, a ≤ b → b < 1001 → (ltP u i l m n N.toNat) a = true → (ltP u i l m n N.toNat) b = true from fun a b hab _ hp => ltP_mono hi.1 hl hab hp)
      by_cases hq : ltQ u i l m N n ≤ 1000
      · have e1 := Lib.hid (show (ltQ u i l m N n : Int) = ltR z u i l m N n k by simp [ltR, hc, hq])
        have e2 := Lib.hid (show 0 = ltC z u i l m N n k by simp [ltC, hc, hq])
        generalize ltQ u i l m N n = Q at *
        replace hqe := Lib.hid hqe
        have hq2 : ¬ 1000 < (Q : Int) := by omega
        clear hc hq
        go_enter Try.func45, Try.ntmps45
        go_wp2_with fail
        generalize hW : (((w.alloc (Obj.cells #[.int .i64 z, .int .i64 u, .int .i64 i, .int .i64 l, .int .i64 m] 25)).alloc (Obj.cells #[.int .i64 N] 2)).alloc (Obj.cells #[.int .i64 n, .int .i64 k] 31)) = W
        have hE : Ext w W := by rw [← hW]; exact ((((Ext.refl _).alloc _).alloc _).alloc _)
        have hl0 : w.heap.size < W.heap.size := by rw [← hW]; simp; try omega
        have hl1 : w.heap.size + 1 < W.heap.size := by rw [← hW]; simp; try omega
        have hl2 : w.heap.size + 2 < W.heap.size := by rw [← hW]; simp; try omega
        have f0_0 : W.cell? ⟨w.heap.size, 0, none⟩ = some (.int .i64 z) := by rw [← hW]; simp [go_sem]
        have f0_1 : W.cell? ⟨w.heap.size, 1, none⟩ = some (.int .i64 u) := by rw [← hW]; simp [go_sem]
        have f0_2 : W.cell? ⟨w.heap.size, 2, none⟩ = some (.int .i64 i) := by rw [← hW]; simp [go_sem]
        have f0_3 : W.cell? ⟨w.heap.size, 3, none⟩ = some (.int .i64 l) := by rw [← hW]; simp [go_sem]
        have f0_4 : W.cell? ⟨w.heap.size, 4, none⟩ = some (.int .i64 m) := by rw [← hW]; simp [go_sem]
        have f1_0 : W.cell? ⟨w.heap.size + 1, 0, none⟩ = some (.int .i64 N) := by rw [← hW]; simp [go_sem]
        have f2_0 : W.cell? ⟨w.heap.size + 2, 0, none⟩ = some (.int .i64 n) := by rw [← hW]; simp [go_sem]
        have f2_1 : W.cell? ⟨w.heap.size + 2, 1, none⟩ = some (.int .i64 k) := by rw [← hW]; simp [go_sem]
        clear hW
        have x0 := Ext.refl W
        have HF := Lib.hid (show ∀ (t : Nat) (wx : World), t < 1001 → Ext W wx → Calls Try.prog 80 (#[.int .i64 t] ++ #[.pointer (some ⟨w.heap.size, 0, none⟩), .pointer (some ⟨w.heap.size + 1 + 1, 0, none⟩), .pointer (some ⟨w.heap.size + 1, 0, none⟩)]) wx fun e w' => e = .returned (.bool (ltP u i l m n N.toNat t)) ∧ Ext wx w' from fun t wx ht x => ltFn_any z u i l m n k N.toNat t w.heap.size wx hu hi hl hm hn (by omega) ht (Nat.lt_of_lt_of_le hl0 x.size) (Nat.lt_of_lt_of_le hl1 x.size) (Nat.lt_of_lt_of_le hl2 x.size) ((x.cells.1 _ _ hl0).trans f0_0) ((x.cells.1 _ _ hl0).trans f0_1) ((x.cells.1 _ _ hl0).trans f0_2) ((x.cells.1 _ _ hl0).trans f0_3) ((x.cells.1 _ _ hl0).trans f0_4) (by rw [show ((N.toNat : Nat) : Int) = N by omega]; exact (x.cells.1 _ _ hl1).trans f1_0) ((x.cells.1 _ _ hl2).trans f2_0) ((x.cells.1 _ _ hl2).trans f2_1))
        go_wp2_with (first | (go_at_call 23; refine (implValidBeat_any z u i l m n k _).mono ?_; rintro e w1 ⟨rfl, x1⟩; (try clear xc xf xs); (first | replace x0 := x0.trans x1 | replace x0 := (x0.alloc _).trans x1 | replace x0 := (x0.drew).trans x1 | replace x0 := (x0.drew.alloc _).trans x1 | replace x0 := (x0.alloc _).drew.trans x1 | replace x0 := ((x0.alloc _).alloc _).trans x1 | have x0 := x1); clear x1; obtain ⟨xc, xf, xs⟩ := x0.cells) | (go_at_call 58; refine (within_any _ _ _ _).mono ?_; rintro e w1 ⟨rfl, rfl⟩) | (go_at_call 78; refine (search_at 80 _ (1001) _ (ltP u i l m n N.toNat) _ hmm eg (by omega) (fun i wx hi x => HF.out i wx hi (x0.trans x)) hmo.out).mono ?_; rintro e w1 ⟨rfl, x1⟩; rw [hqe.out]; (try clear xc xf xs); (first | replace x0 := x0.trans x1 | replace x0 := (x0.alloc _).trans x1 | replace x0 := (x0.drew).trans x1 | replace x0 := (x0.drew.alloc _).trans x1 | replace x0 := (x0.alloc _).drew.trans x1 | replace x0 := ((x0.alloc _).alloc _).trans x1 | have x0 := x1); clear x1; obtain ⟨xc, xf, xs⟩ := x0.cells))
        go_ret2
        exact ⟨ret2 e1.out e2.out, hE.trans x0⟩
      · have e1 := Lib.hid (show 0 = ltR z u i l m N n k by simp [ltR, hc, hq])
        have e2 := Lib.hid (show 3 = ltC z u i l m N n k by simp [ltC, hc, hq])
        generalize ltQ u i l m N n = Q at *
        replace hqe := Lib.hid hqe
        have hq2 : 1000 < (Q : Int) := by omega
        clear hc hq
        go_enter Try.func45, Try.ntmps45
        go_wp2_with fail
        generalize hW : (((w.alloc (Obj.cells #[.int .i64 z, .int .i64 u, .int .i64 i, .int .i64 l, .int .i64 m] 25)).alloc (Obj.cells #[.int .i64 N] 2)).alloc (Obj.cells #[.int .i64 n, .int .i64 k] 31)) = W
        have hE : Ext w W := by rw [← hW]; exact ((((Ext.refl _).alloc _).alloc _).alloc _)
        have hl0 : w.heap.size < W.heap.size := by rw [← hW]; simp; try omega
        have hl1 : w.heap.size + 1 < W.heap.size := by rw [← hW]; simp; try omega
        have hl2 : w.heap.size + 2 < W.heap.size := by rw [← hW]; simp; try omega
        have f0_0 : W.cell? ⟨w.heap.size, 0, none⟩ = some (.int .i64 z) := by rw [← hW]; simp [go_sem]
        have f0_1 : W.cell? ⟨w.heap.size, 1, none⟩ = some (.int .i64 u) := by rw [← hW]; simp [go_sem]
        have f0_2 : W.cell? ⟨w.heap.size, 2, none⟩ = some (.int .i64 i) := by rw [← hW]; simp [go_sem]
        have f0_3 : W.cell? ⟨w.heap.size, 3, none⟩ = some (.int .i64 l) := by rw [← hW]; simp [go_sem]
        have f0_4 : W.cell? ⟨w.heap.size, 4, none⟩ = some (.int .i64 m) := by rw [← hW]; simp [go_sem]
        have f1_0 : W.cell? ⟨w.heap.size + 1, 0, none⟩ = some (.int .i64 N) := by rw [← hW]; simp [go_sem]
        have f2_0 : W.cell? ⟨w.heap.size + 2, 0, none⟩ = some (.int .i64 n) := by rw [← hW]; simp [go_sem]
        have f2_1 : W.cell? ⟨w.heap.size + 2, 1, none⟩ = some (.int .i64 k) := by rw [← hW]; simp [go_sem]
        clear hW
        have x0 := Ext.refl W
        have HF := Lib.hid (show ∀ (t : Nat) (wx : World), t < 1001 → Ext W wx → Calls Try.prog 80 (#[.int .i64 t] ++ #[.pointer (some ⟨w.heap.size, 0, none⟩), .pointer (some ⟨w.heap.size + 1 + 1, 0, none⟩), .pointer (some ⟨w.heap.size + 1, 0, none⟩)]) wx fun e w' => e = .returned (.bool (ltP u i l m n N.toNat t)) ∧ Ext wx w' from fun t wx ht x => ltFn_any z u i l m n k N.toNat t w.heap.size wx hu hi hl hm hn (by omega) ht (Nat.lt_of_lt_of_le hl0 x.size) (Nat.lt_of_lt_of_le hl1 x.size) (Nat.lt_of_lt_of_le hl2 x.size) ((x.cells.1 _ _ hl0).trans f0_0) ((x.cells.1 _ _ hl0).trans f0_1) ((x.cells.1 _ _ hl0).trans f0_2) ((x.cells.1 _ _ hl0).trans f0_3) ((x.cells.1 _ _ hl0).trans f0_4) (by rw [show ((N.toNat : Nat) : Int) = N by omega]; exact (x.cells.1 _ _ hl1).trans f1_0) ((x.cells.1 _ _ hl2).trans f2_0) ((x.cells.1 _ _ hl2).trans f2_1))
        go_wp2_with (first | (go_at_call 23; refine (implValidBeat_any z u i l m n k _).mono ?_; rintro e w1 ⟨rfl, x1⟩; (try clear xc xf xs); (first | replace x0 := x0.trans x1 | replace x0 := (x0.alloc _).trans x1 | replace x0 := (x0.drew).trans x1 | replace x0 := (x0.drew.alloc _).trans x1 | replace x0 := (x0.alloc _).drew.trans x1 | replace x0 := ((x0.alloc _).alloc _).trans x1 | have x0 := x1); clear x1; obtain ⟨xc, xf, xs⟩ := x0.cells) | (go_at_call 58; refine (within_any _ _ _ _).mono ?_; rintro e w1 ⟨rfl, rfl⟩) | (go_at_call 78; refine (search_at 80 _ (1001) _ (ltP u i l m n N.toNat) _ hmm eg (by omega) (fun i wx hi x => HF.out i wx hi (x0.trans x)) hmo.out).mono ?_; rintro e w1 ⟨rfl, x1⟩; rw [hqe.out]; (try clear xc xf xs); (first | replace x0 := x0.trans x1 | replace x0 := (x0.alloc _).trans x1 | replace x0 := (x0.drew).trans x1 | replace x0 := (x0.drew.alloc _).trans x1 | replace x0 := (x0.alloc _).drew.trans x1 | replace x0 := ((x0.alloc _).alloc _).trans x1 | have x0 := x1); clear x1; obtain ⟨xc, xf, xs⟩ := x0.cells))
        go_ret2
        exact ⟨ret2 e1.out e2.out, hE.trans x0⟩

set_option maxHeartbeats 4000000 in
theorem implLeastStart_any (z u i l m q N : Int) (w : World) :
    Calls Try.prog 43 #[.agg #[.int .i64 z, .int .i64 u, .int .i64 i, .int .i64 l, .int .i64 m], .int .i64 q, .int .i64 N] w fun e w' => e = .returned (.tuple #[.int .i64 (lsR z u i l m q N), .int .i64 (lsC z u i l m q N)]) ∧ Ext w w' := by
  cases h1 : vEsc z u i l m
  · have hc : lsCd z u i l m q N = 1 := by simp [lsCd, h1]
    have e1 := Lib.hid (show 0 = lsR z u i l m q N by simp [lsR, hc])
    have e2 := Lib.hid (show 1 = lsC z u i l m q N by simp [lsC, hc])
    clear hc
    go_enter Try.func43, Try.ntmps43
    go_wp2_with fail
    generalize hW : (((w.alloc (Obj.cells #[.int .i64 z, .int .i64 u, .int .i64 i, .int .i64 l, .int .i64 m] 25)).alloc (Obj.cells #[.int .i64 q] 2)).alloc (Obj.cells #[.int .i64 N] 2)) = W
    have hE : Ext w W := by rw [← hW]; exact ((((Ext.refl _).alloc _).alloc _).alloc _)
    have hl0 : w.heap.size < W.heap.size := by rw [← hW]; simp; try omega
    have hl1 : w.heap.size + 1 < W.heap.size := by rw [← hW]; simp; try omega
    have hl2 : w.heap.size + 2 < W.heap.size := by rw [← hW]; simp; try omega
    have f0_0 : W.cell? ⟨w.heap.size, 0, none⟩ = some (.int .i64 z) := by rw [← hW]; simp [go_sem]
    have f0_1 : W.cell? ⟨w.heap.size, 1, none⟩ = some (.int .i64 u) := by rw [← hW]; simp [go_sem]
    have f0_2 : W.cell? ⟨w.heap.size, 2, none⟩ = some (.int .i64 i) := by rw [← hW]; simp [go_sem]
    have f0_3 : W.cell? ⟨w.heap.size, 3, none⟩ = some (.int .i64 l) := by rw [← hW]; simp [go_sem]
    have f0_4 : W.cell? ⟨w.heap.size, 4, none⟩ = some (.int .i64 m) := by rw [← hW]; simp [go_sem]
    have f1_0 : W.cell? ⟨w.heap.size + 1, 0, none⟩ = some (.int .i64 q) := by rw [← hW]; simp [go_sem]
    have f2_0 : W.cell? ⟨w.heap.size + 2, 0, none⟩ = some (.int .i64 N) := by rw [← hW]; simp [go_sem]
    clear hW
    have x0 := Ext.refl W
    go_wp2_with (first | (go_at_call 20; refine (implValidEscapement_any z u i l m _).mono ?_; rintro e w1 ⟨rfl, x1⟩; (try clear xc xf xs); (first | replace x0 := x0.trans x1 | replace x0 := (x0.alloc _).trans x1 | replace x0 := (x0.drew).trans x1 | replace x0 := (x0.drew.alloc _).trans x1 | replace x0 := (x0.alloc _).drew.trans x1 | replace x0 := ((x0.alloc _).alloc _).trans x1 | have x0 := x1); clear x1; obtain ⟨xc, xf, xs⟩ := x0.cells) | (go_at_call 64; refine (isTorque_any _ _).mono ?_; rintro e w1 ⟨rfl, rfl⟩) | (go_at_call 58; refine (within_any _ _ _ _).mono ?_; rintro e w1 ⟨rfl, rfl⟩))
    go_ret2
    exact ⟨ret2 e1.out e2.out, hE.trans x0⟩
  · skip
    cases h2 : inB q 0 1000
    · have hc : lsCd z u i l m q N = 2 := by simp [lsCd, h1, h2]
      have e1 := Lib.hid (show 0 = lsR z u i l m q N by simp [lsR, hc])
      have e2 := Lib.hid (show 2 = lsC z u i l m q N by simp [lsC, hc])
      clear hc
      go_enter Try.func43, Try.ntmps43
      go_wp2_with fail
      generalize hW : (((w.alloc (Obj.cells #[.int .i64 z, .int .i64 u, .int .i64 i, .int .i64 l, .int .i64 m] 25)).alloc (Obj.cells #[.int .i64 q] 2)).alloc (Obj.cells #[.int .i64 N] 2)) = W
      have hE : Ext w W := by rw [← hW]; exact ((((Ext.refl _).alloc _).alloc _).alloc _)
      have hl0 : w.heap.size < W.heap.size := by rw [← hW]; simp; try omega
      have hl1 : w.heap.size + 1 < W.heap.size := by rw [← hW]; simp; try omega
      have hl2 : w.heap.size + 2 < W.heap.size := by rw [← hW]; simp; try omega
      have f0_0 : W.cell? ⟨w.heap.size, 0, none⟩ = some (.int .i64 z) := by rw [← hW]; simp [go_sem]
      have f0_1 : W.cell? ⟨w.heap.size, 1, none⟩ = some (.int .i64 u) := by rw [← hW]; simp [go_sem]
      have f0_2 : W.cell? ⟨w.heap.size, 2, none⟩ = some (.int .i64 i) := by rw [← hW]; simp [go_sem]
      have f0_3 : W.cell? ⟨w.heap.size, 3, none⟩ = some (.int .i64 l) := by rw [← hW]; simp [go_sem]
      have f0_4 : W.cell? ⟨w.heap.size, 4, none⟩ = some (.int .i64 m) := by rw [← hW]; simp [go_sem]
      have f1_0 : W.cell? ⟨w.heap.size + 1, 0, none⟩ = some (.int .i64 q) := by rw [← hW]; simp [go_sem]
      have f2_0 : W.cell? ⟨w.heap.size + 2, 0, none⟩ = some (.int .i64 N) := by rw [← hW]; simp [go_sem]
      clear hW
      have x0 := Ext.refl W
      go_wp2_with (first | (go_at_call 20; refine (implValidEscapement_any z u i l m _).mono ?_; rintro e w1 ⟨rfl, x1⟩; (try clear xc xf xs); (first | replace x0 := x0.trans x1 | replace x0 := (x0.alloc _).trans x1 | replace x0 := (x0.drew).trans x1 | replace x0 := (x0.drew.alloc _).trans x1 | replace x0 := (x0.alloc _).drew.trans x1 | replace x0 := ((x0.alloc _).alloc _).trans x1 | have x0 := x1); clear x1; obtain ⟨xc, xf, xs⟩ := x0.cells) | (go_at_call 64; refine (isTorque_any _ _).mono ?_; rintro e w1 ⟨rfl, rfl⟩) | (go_at_call 58; refine (within_any _ _ _ _).mono ?_; rintro e w1 ⟨rfl, rfl⟩))
      go_ret2
      exact ⟨ret2 e1.out e2.out, hE.trans x0⟩
    · skip
      cases h3 : inB N 1 2000
      · have hc : lsCd z u i l m q N = 2 := by simp [lsCd, h1, h2, h3]
        have e1 := Lib.hid (show 0 = lsR z u i l m q N by simp [lsR, hc])
        have e2 := Lib.hid (show 2 = lsC z u i l m q N by simp [lsC, hc])
        clear hc
        go_enter Try.func43, Try.ntmps43
        go_wp2_with fail
        generalize hW : (((w.alloc (Obj.cells #[.int .i64 z, .int .i64 u, .int .i64 i, .int .i64 l, .int .i64 m] 25)).alloc (Obj.cells #[.int .i64 q] 2)).alloc (Obj.cells #[.int .i64 N] 2)) = W
        have hE : Ext w W := by rw [← hW]; exact ((((Ext.refl _).alloc _).alloc _).alloc _)
        have hl0 : w.heap.size < W.heap.size := by rw [← hW]; simp; try omega
        have hl1 : w.heap.size + 1 < W.heap.size := by rw [← hW]; simp; try omega
        have hl2 : w.heap.size + 2 < W.heap.size := by rw [← hW]; simp; try omega
        have f0_0 : W.cell? ⟨w.heap.size, 0, none⟩ = some (.int .i64 z) := by rw [← hW]; simp [go_sem]
        have f0_1 : W.cell? ⟨w.heap.size, 1, none⟩ = some (.int .i64 u) := by rw [← hW]; simp [go_sem]
        have f0_2 : W.cell? ⟨w.heap.size, 2, none⟩ = some (.int .i64 i) := by rw [← hW]; simp [go_sem]
        have f0_3 : W.cell? ⟨w.heap.size, 3, none⟩ = some (.int .i64 l) := by rw [← hW]; simp [go_sem]
        have f0_4 : W.cell? ⟨w.heap.size, 4, none⟩ = some (.int .i64 m) := by rw [← hW]; simp [go_sem]
        have f1_0 : W.cell? ⟨w.heap.size + 1, 0, none⟩ = some (.int .i64 q) := by rw [← hW]; simp [go_sem]
        have f2_0 : W.cell? ⟨w.heap.size + 2, 0, none⟩ = some (.int .i64 N) := by rw [← hW]; simp [go_sem]
        clear hW
        have x0 := Ext.refl W
        go_wp2_with (first | (go_at_call 20; refine (implValidEscapement_any z u i l m _).mono ?_; rintro e w1 ⟨rfl, x1⟩; (try clear xc xf xs); (first | replace x0 := x0.trans x1 | replace x0 := (x0.alloc _).trans x1 | replace x0 := (x0.drew).trans x1 | replace x0 := (x0.drew.alloc _).trans x1 | replace x0 := (x0.alloc _).drew.trans x1 | replace x0 := ((x0.alloc _).alloc _).trans x1 | have x0 := x1); clear x1; obtain ⟨xc, xf, xs⟩ := x0.cells) | (go_at_call 64; refine (isTorque_any _ _).mono ?_; rintro e w1 ⟨rfl, rfl⟩) | (go_at_call 58; refine (within_any _ _ _ _).mono ?_; rintro e w1 ⟨rfl, rfl⟩))
        go_ret2
        exact ⟨ret2 e1.out e2.out, hE.trans x0⟩
      · skip
        have hc : lsCd z u i l m q N = 0 := by simp [lsCd, h1, h2, h3]
        have ev := vEsc_iff.1 h1
        have hu := ev.bu; have hi := ev.bi; have hl := ev.bl
        have hm : 1 ≤ m ∧ m ≤ 100000 := by have := ev.bm; omega
        have hN := inB_iff.1 h3
        have hqq := inB_iff.1 h2
        clear ev
        have hmm := Lib.hid (show (((m + 1).toNat : Nat) : Int) = m + 1 by omega)
        have eg : ∀ args w, (callFunc 79 args).run Try.prog w = .ok (.enter 79 args) w := enters_of Try.func79 (by kernel_rfl) rfl
        have hqe : leastN (lsP u i l m q N.toNat) ((m + 1).toNat) = lsQ u i l m q N := rfl
        have hmo := Lib.hid (show ∀ a b, a ≤ b → b < (m + 1).toNat → (lsP u i l m q N.toNat) a = true → (lsP u i l m q N.toNat) b = true from fun a b hab _ hp => lsP_mono hl hab hp)
        by_cases hq : lsQ u i l m q N ≤ m.toNat
        · have e1 := Lib.hid (show (lsQ u i l m q N : Int) = lsR z u i l m q N by simp [lsR, hc, hq])
          have e2 := Lib.hid (show 0 = lsC z u i l m q N by simp [lsC, hc, hq])
          generalize lsQ u i l m q N = Q at *
          replace hqe := Lib.hid hqe
          have hq2 : ¬ m < (Q : Int) := by omega
          clear hc hq
          go_enter Try.func43, Try.ntmps43
          go_wp2_with fail
          generalize hW : (((w.alloc (Obj.cells #[.int .i64 z, .int .i64 u, .int .i64 i, .int .i64 l, .int .i64 m] 25)).alloc (Obj.cells #[.int .i64 q] 2)).alloc (Obj.cells #[.int .i64 N] 2)) = W
          have hE : Ext w W := by rw [← hW]; exact ((((Ext.refl _).alloc _).alloc _).alloc _)
          have hl0 : w.heap.size < W.heap.size := by rw [← hW]; simp; try omega
          have hl1 : w.heap.size + 1 < W.heap.size := by rw [← hW]; simp; try omega
          have hl2 : w.heap.size + 2 < W.heap.size := by rw [← hW]; simp; try omega
          have f0_0 : W.cell? ⟨w.heap.size, 0, none⟩ = some (.int .i64 z) := by rw [← hW]; simp [go_sem]
          have f0_1 : W.cell? ⟨w.heap.size, 1, none⟩ = some (.int .i64 u) := by rw [← hW]; simp [go_sem]
          have f0_2 : W.cell? ⟨w.heap.size, 2, none⟩ = some (.int .i64 i) := by rw [← hW]; simp [go_sem]
          have f0_3 : W.cell? ⟨w.heap.size, 3, none⟩ = some (.int .i64 l) := by rw [← hW]; simp [go_sem]
          have f0_4 : W.cell? ⟨w.heap.size, 4, none⟩ = some (.int .i64 m) := by rw [← hW]; simp [go_sem]
          have f1_0 : W.cell? ⟨w.heap.size + 1, 0, none⟩ = some (.int .i64 q) := by rw [← hW]; simp [go_sem]
          have f2_0 : W.cell? ⟨w.heap.size + 2, 0, none⟩ = some (.int .i64 N) := by rw [← hW]; simp [go_sem]
          clear hW
          have x0 := Ext.refl W
          have HF := Lib.hid (show ∀ (t : Nat) (wx : World), t < (m + 1).toNat → Ext W wx → Calls Try.prog 79 (#[.int .i64 t] ++ #[.pointer (some ⟨w.heap.size, 0, none⟩), .pointer (some ⟨w.heap.size + 1, 0, none⟩), .pointer (some ⟨w.heap.size + 1 + 1, 0, none⟩)]) wx fun e w' => e = .returned (.bool (lsP u i l m q N.toNat t)) ∧ Ext wx w' from fun t wx ht x => lsFn_any z u i l m q N.toNat t w.heap.size wx hu hi hl hm hqq (by omega) ht (Nat.lt_of_lt_of_le hl0 x.size) (Nat.lt_of_lt_of_le hl1 x.size) (Nat.lt_of_lt_of_le hl2 x.size) ((x.cells.1 _ _ hl0).trans f0_0) ((x.cells.1 _ _ hl0).trans f0_1) ((x.cells.1 _ _ hl0).trans f0_2) ((x.cells.1 _ _ hl0).trans f0_3) ((x.cells.1 _ _ hl0).trans f0_4) ((x.cells.1 _ _ hl1).trans f1_0) (by rw [show ((N.toNat : Nat) : Int) = N by omega]; exact (x.cells.1 _ _ hl2).trans f2_0))
          go_wp2_with (first | (go_at_call 20; refine (implValidEscapement_any z u i l m _).mono ?_; rintro e w1 ⟨rfl, x1⟩; (try clear xc xf xs); (first | replace x0 := x0.trans x1 | replace x0 := (x0.alloc _).trans x1 | replace x0 := (x0.drew).trans x1 | replace x0 := (x0.drew.alloc _).trans x1 | replace x0 := (x0.alloc _).drew.trans x1 | replace x0 := ((x0.alloc _).alloc _).trans x1 | have x0 := x1); clear x1; obtain ⟨xc, xf, xs⟩ := x0.cells) | (go_at_call 64; refine (isTorque_any _ _).mono ?_; rintro e w1 ⟨rfl, rfl⟩) | (go_at_call 58; refine (within_any _ _ _ _).mono ?_; rintro e w1 ⟨rfl, rfl⟩) | (go_at_call 78; refine (search_at 79 _ ((m + 1).toNat) _ (lsP u i l m q N.toNat) _ hmm eg (by omega) (fun i wx hi x => HF.out i wx hi (x0.trans x)) hmo.out).mono ?_; rintro e w1 ⟨rfl, x1⟩; rw [hqe.out]; (try clear xc xf xs); (first | replace x0 := x0.trans x1 | replace x0 := (x0.alloc _).trans x1 | replace x0 := (x0.drew).trans x1 | replace x0 := (x0.drew.alloc _).trans x1 | replace x0 := (x0.alloc _).drew.trans x1 | replace x0 := ((x0.alloc _).alloc _).trans x1 | have x0 := x1); clear x1; obtain ⟨xc, xf, xs⟩ := x0.cells))
          go_ret2
          exact ⟨ret2 e1.out e2.out, hE.trans x0⟩
        · have e1 := Lib.hid (show 0 = lsR z u i l m q N by simp [lsR, hc, hq])
          have e2 := Lib.hid (show 3 = lsC z u i l m q N by simp [lsC, hc, hq])
          generalize lsQ u i l m q N = Q at *
          replace hqe := Lib.hid hqe
          have hq2 : m < (Q : Int) := by omega
          clear hc hq
          go_enter Try.func43, Try.ntmps43
          go_wp2_with fail
          generalize hW : (((w.alloc (Obj.cells #[.int .i64 z, .int .i64 u, .int .i64 i, .int .i64 l, .int .i64 m] 25)).alloc (Obj.cells #[.int .i64 q] 2)).alloc (Obj.cells #[.int .i64 N] 2)) = W
          have hE : Ext w W := by rw [← hW]; exact ((((Ext.refl _).alloc _).alloc _).alloc _)
          have hl0 : w.heap.size < W.heap.size := by rw [← hW]; simp; try omega
          have hl1 : w.heap.size + 1 < W.heap.size := by rw [← hW]; simp; try omega
          have hl2 : w.heap.size + 2 < W.heap.size := by rw [← hW]; simp; try omega
          have f0_0 : W.cell? ⟨w.heap.size, 0, none⟩ = some (.int .i64 z) := by rw [← hW]; simp [go_sem]
          have f0_1 : W.cell? ⟨w.heap.size, 1, none⟩ = some (.int .i64 u) := by rw [← hW]; simp [go_sem]
          have f0_2 : W.cell? ⟨w.heap.size, 2, none⟩ = some (.int .i64 i) := by rw [← hW]; simp [go_sem]
          have f0_3 : W.cell? ⟨w.heap.size, 3, none⟩ = some (.int .i64 l) := by rw [← hW]; simp [go_sem]
          have f0_4 : W.cell? ⟨w.heap.size, 4, none⟩ = some (.int .i64 m) := by rw [← hW]; simp [go_sem]
          have f1_0 : W.cell? ⟨w.heap.size + 1, 0, none⟩ = some (.int .i64 q) := by rw [← hW]; simp [go_sem]
          have f2_0 : W.cell? ⟨w.heap.size + 2, 0, none⟩ = some (.int .i64 N) := by rw [← hW]; simp [go_sem]
          clear hW
          have x0 := Ext.refl W
          have HF := Lib.hid (show ∀ (t : Nat) (wx : World), t < (m + 1).toNat → Ext W wx → Calls Try.prog 79 (#[.int .i64 t] ++ #[.pointer (some ⟨w.heap.size, 0, none⟩), .pointer (some ⟨w.heap.size + 1, 0, none⟩), .pointer (some ⟨w.heap.size + 1 + 1, 0, none⟩)]) wx fun e w' => e = .returned (.bool (lsP u i l m q N.toNat t)) ∧ Ext wx w' from fun t wx ht x => lsFn_any z u i l m q N.toNat t w.heap.size wx hu hi hl hm hqq (by omega) ht (Nat.lt_of_lt_of_le hl0 x.size) (Nat.lt_of_lt_of_le hl1 x.size) (Nat.lt_of_lt_of_le hl2 x.size) ((x.cells.1 _ _ hl0).trans f0_0) ((x.cells.1 _ _ hl0).trans f0_1) ((x.cells.1 _ _ hl0).trans f0_2) ((x.cells.1 _ _ hl0).trans f0_3) ((x.cells.1 _ _ hl0).trans f0_4) ((x.cells.1 _ _ hl1).trans f1_0) (by rw [show ((N.toNat : Nat) : Int) = N by omega]; exact (x.cells.1 _ _ hl2).trans f2_0))
          go_wp2_with (first | (go_at_call 20; refine (implValidEscapement_any z u i l m _).mono ?_; rintro e w1 ⟨rfl, x1⟩; (try clear xc xf xs); (first | replace x0 := x0.trans x1 | replace x0 := (x0.alloc _).trans x1 | replace x0 := (x0.drew).trans x1 | replace x0 := (x0.drew.alloc _).trans x1 | replace x0 := (x0.alloc _).drew.trans x1 | replace x0 := ((x0.alloc _).alloc _).trans x1 | have x0 := x1); clear x1; obtain ⟨xc, xf, xs⟩ := x0.cells) | (go_at_call 64; refine (isTorque_any _ _).mono ?_; rintro e w1 ⟨rfl, rfl⟩) | (go_at_call 58; refine (within_any _ _ _ _).mono ?_; rintro e w1 ⟨rfl, rfl⟩) | (go_at_call 78; refine (search_at 79 _ ((m + 1).toNat) _ (lsP u i l m q N.toNat) _ hmm eg (by omega) (fun i wx hi x => HF.out i wx hi (x0.trans x)) hmo.out).mono ?_; rintro e w1 ⟨rfl, x1⟩; rw [hqe.out]; (try clear xc xf xs); (first | replace x0 := x0.trans x1 | replace x0 := (x0.alloc _).trans x1 | replace x0 := (x0.drew).trans x1 | replace x0 := (x0.drew.alloc _).trans x1 | replace x0 := (x0.alloc _).drew.trans x1 | replace x0 := ((x0.alloc _).alloc _).trans x1 | have x0 := x1); clear x1; obtain ⟨xc, xf, xs⟩ := x0.cells))
          go_ret2
          exact ⟨ret2 e1.out e2.out, hE.trans x0⟩

set_option maxHeartbeats 4000000 in
theorem specLeastTorque_any (z u i l m N n k : Int) (w : World) :
    Calls Try.prog 44 #[.agg #[.int .i64 z, .int .i64 u, .int .i64 i, .int .i64 l, .int .i64 m], .int .i64 N, .agg #[.int .i64 n, .int .i64 k]] w fun e w' => e = .returned (.tuple #[.int .i64 (ltR z u i l m N n k), .int .i64 (ltC z u i l m N n k)]) ∧ Ext w w' := by
  cases h1 : vBeat z u i l m n k
  · have hc : ltCd z u i l m N n k = 1 := by simp [ltCd, h1]
    have e1 := Lib.hid (show 0 = ltR z u i l m N n k by simp [ltR, hc])
    have e2 := Lib.hid (show 1 = ltC z u i l m N n k by simp [ltC, hc])
    clear hc
    go_enter Try.func44, Try.ntmps44
    go_wp2_with fail
    generalize hW : ((w.alloc (Obj.cells #[.int .i64 z, .int .i64 u, .int .i64 i, .int .i64 l, .int .i64 m] 25)).alloc (Obj.cells #[.int .i64 n, .int .i64 k] 31)) = W
    have hE : Ext w W := by rw [← hW]; exact (((Ext.refl _).alloc _).alloc _)
    have hl0 : w.heap.size < W.heap.size := by rw [← hW]; simp; try omega
    have hl1 : w.heap.size + 1 < W.heap.size := by rw [← hW]; simp; try omega
    have f0_0 : W.cell? ⟨w.heap.size, 0, none⟩ = some (.int .i64 z) := by rw [← hW]; simp
    have f0_1 : W.cell? ⟨w.heap.size, 1, none⟩ = some (.int .i64 u) := by rw [← hW]; simp
    have f0_2 : W.cell? ⟨w.heap.size, 2, none⟩ = some (.int .i64 i) := by rw [← hW]; simp
    have f0_3 : W.cell? ⟨w.heap.size, 3, none⟩ = some (.int .i64 l) := by rw [← hW]; simp
    have f0_4 : W.cell? ⟨w.heap.size, 4, none⟩ = some (.int .i64 m) := by rw [← hW]; simp
    have f1_0 : W.cell? ⟨w.heap.size + 1, 0, none⟩ = some (.int .i64 n) := by rw [← hW]; simp
    have f1_1 : W.cell? ⟨w.heap.size + 1, 1, none⟩ = some (.int .i64 k) := by rw [← hW]; simp
    clear hW
    have x0 := Ext.refl W
    go_wp2_with (first | (go_at_call 59; refine (l11Beat_any z u i l m n k _).mono ?_; rintro e w1 ⟨rfl, x1⟩; (try clear xc xf xs); (first | replace x0 := x0.trans x1 | replace x0 := (x0.alloc _).trans x1 | replace x0 := (x0.drew).trans x1 | replace x0 := (x0.drew.alloc _).trans x1 | replace x0 := (x0.alloc _).drew.trans x1 | replace x0 := ((x0.alloc _).alloc _).trans x1 | have x0 := x1); clear x1; obtain ⟨xc, xf, xs⟩ := x0.cells) | (go_at_call 66; refine (l00In_any _ _ _ _).mono ?_; rintro e w1 ⟨rfl, rfl⟩))
    go_ret2
    exact ⟨ret2 e1.out e2.out, hE.trans x0⟩
  · skip
    cases h2 : inB N 1 2000
    · have hc : ltCd z u i l m N n k = 2 := by simp [ltCd, h1, h2]
      have e1 := Lib.hid (show 0 = ltR z u i l m N n k by simp [ltR, hc])
      have e2 := Lib.hid (show 2 = ltC z u i l m N n k by simp [ltC, hc])
      clear hc
      go_enter Try.func44, Try.ntmps44
      go_wp2_with fail
      generalize hW : ((w.alloc (Obj.cells #[.int .i64 z, .int .i64 u, .int .i64 i, .int .i64 l, .int .i64 m] 25)).alloc (Obj.cells #[.int .i64 n, .int .i64 k] 31)) = W
      have hE : Ext w W := by rw [← hW]; exact (((Ext.refl _).alloc _).alloc _)
      have hl0 : w.heap.size < W.heap.size := by rw [← hW]; simp; try omega
      have hl1 : w.heap.size + 1 < W.heap.size := by rw [← hW]; simp; try omega
      have f0_0 : W.cell? ⟨w.heap.size, 0, none⟩ = some (.int .i64 z) := by rw [← hW]; simp
      have f0_1 : W.cell? ⟨w.heap.size, 1, none⟩ = some (.int .i64 u) := by rw [← hW]; simp
      have f0_2 : W.cell? ⟨w.heap.size, 2, none⟩ = some (.int .i64 i) := by rw [← hW]; simp
      have f0_3 : W.cell? ⟨w.heap.size, 3, none⟩ = some (.int .i64 l) := by rw [← hW]; simp
      have f0_4 : W.cell? ⟨w.heap.size, 4, none⟩ = some (.int .i64 m) := by rw [← hW]; simp
      have f1_0 : W.cell? ⟨w.heap.size + 1, 0, none⟩ = some (.int .i64 n) := by rw [← hW]; simp
      have f1_1 : W.cell? ⟨w.heap.size + 1, 1, none⟩ = some (.int .i64 k) := by rw [← hW]; simp
      clear hW
      have x0 := Ext.refl W
      go_wp2_with (first | (go_at_call 59; refine (l11Beat_any z u i l m n k _).mono ?_; rintro e w1 ⟨rfl, x1⟩; (try clear xc xf xs); (first | replace x0 := x0.trans x1 | replace x0 := (x0.alloc _).trans x1 | replace x0 := (x0.drew).trans x1 | replace x0 := (x0.drew.alloc _).trans x1 | replace x0 := (x0.alloc _).drew.trans x1 | replace x0 := ((x0.alloc _).alloc _).trans x1 | have x0 := x1); clear x1; obtain ⟨xc, xf, xs⟩ := x0.cells) | (go_at_call 66; refine (l00In_any _ _ _ _).mono ?_; rintro e w1 ⟨rfl, rfl⟩))
      go_ret2
      exact ⟨ret2 e1.out e2.out, hE.trans x0⟩
    · skip
      have hc : ltCd z u i l m N n k = 0 := by simp [ltCd, h1, h2]
      have hv := h1
      simp only [vBeat, Bool.and_eq_true] at hv
      have ev := vEsc_iff.1 hv.1
      have hn := (vBt_iff.1 hv.2).1
      have hu := ev.bu; have hi := ev.bi; have hl := ev.bl
      have hm : 1 ≤ m ∧ m ≤ 100000 := by have := ev.bm; omega
      have hN := inB_iff.1 h2
      clear ev hv
      obtain ⟨M, rfl⟩ : ∃ M : Nat, N = M := ⟨N.toNat, by omega⟩
      have HM := Lib.hid (show ∀ a b, a ≤ b → b < 1001 → ltP u i l m n M a = true → ltP u i l m n M b = true from fun a b hab _ hp => ltP_mono hi.1 hl hab hp)
      cases h9 : ltP u i l m n M 1000
      · have hq : ¬ ltQ u i l m (M : Int) n ≤ 1000 := by
            have := show ltQ u i l m (M : Int) n = 1001 from leastN_no h9
            omega
        have e1 := Lib.hid (show 0 = ltR z u i l m (M : Int) n k by rw [ltR, if_pos hc, if_neg hq])
        have e2 := Lib.hid (show 3 = ltC z u i l m (M : Int) n k by rw [ltC, if_pos hc, if_neg hq])
        have h8 := Lib.hid (ltP_at' (show ((1000 : Nat) : Int) = 1000 from rfl) false h9)
        clear hc hq h9
        go_enter Try.func44, Try.ntmps44
        go_wp2_with fail
        generalize hW : ((w.alloc (Obj.cells #[.int .i64 z, .int .i64 u, .int .i64 i, .int .i64 l, .int .i64 m] 25)).alloc (Obj.cells #[.int .i64 n, .int .i64 k] 31)) = W
        have hE : Ext w W := by rw [← hW]; exact (((Ext.refl _).alloc _).alloc _)
        have hl0 : w.heap.size < W.heap.size := by rw [← hW]; simp; try omega
        have hl1 : w.heap.size + 1 < W.heap.size := by rw [← hW]; simp; try omega
        have f0_0 : W.cell? ⟨w.heap.size, 0, none⟩ = some (.int .i64 z) := by rw [← hW]; simp
        have f0_1 : W.cell? ⟨w.heap.size, 1, none⟩ = some (.int .i64 u) := by rw [← hW]; simp
        have f0_2 : W.cell? ⟨w.heap.size, 2, none⟩ = some (.int .i64 i) := by rw [← hW]; simp
        have f0_3 : W.cell? ⟨w.heap.size, 3, none⟩ = some (.int .i64 l) := by rw [← hW]; simp
        have f0_4 : W.cell? ⟨w.heap.size, 4, none⟩ = some (.int .i64 m) := by rw [← hW]; simp
        have f1_0 : W.cell? ⟨w.heap.size + 1, 0, none⟩ = some (.int .i64 n) := by rw [← hW]; simp
        have f1_1 : W.cell? ⟨w.heap.size + 1, 1, none⟩ = some (.int .i64 k) := by rw [← hW]; simp
        clear hW
        have x0 := Ext.refl W
        go_wp2_with (first | (go_at_call 59; refine (l11Beat_any z u i l m n k _).mono ?_; rintro e w1 ⟨rfl, x1⟩; (try clear xc xf xs); (first | replace x0 := x0.trans x1 | replace x0 := (x0.alloc _).trans x1 | replace x0 := (x0.drew).trans x1 | replace x0 := (x0.drew.alloc _).trans x1 | replace x0 := (x0.alloc _).drew.trans x1 | replace x0 := ((x0.alloc _).alloc _).trans x1 | have x0 := x1); clear x1; obtain ⟨xc, xf, xs⟩ := x0.cells) | (go_at_call 66; refine (l00In_any _ _ _ _).mono ?_; rintro e w1 ⟨rfl, rfl⟩) | (go_at_call 77; refine (l11All_any z u i l m 1000 n M _ hu hi hl hm (by omega) (by omega) (by omega)).mono ?_; rintro e w1 ⟨rfl, x1⟩; rw [h8.out]; (try clear xc xf xs); (first | replace x0 := x0.trans x1 | replace x0 := (x0.alloc _).trans x1 | replace x0 := (x0.drew).trans x1 | replace x0 := (x0.drew.alloc _).trans x1 | replace x0 := (x0.alloc _).drew.trans x1 | replace x0 := ((x0.alloc _).alloc _).trans x1 | have x0 := x1); clear x1; obtain ⟨xc, xf, xs⟩ := x0.cells))
        go_ret2
        exact ⟨ret2 e1.out e2.out, hE.trans x0⟩
      · have hq : ltQ u i l m (M : Int) n ≤ 1000 := by
            have := show ltQ u i l m (M : Int) n ≤ 1000 from leastN_yes h9
            omega
        have e1 := Lib.hid (show (ltQ u i l m (M : Int) n : Int) = ltR z u i l m (M : Int) n k by rw [ltR, if_pos hc, if_pos hq])
        have e2 := Lib.hid (show 0 = ltC z u i l m (M : Int) n k by rw [ltC, if_pos hc, if_pos hq])
        have h8 := Lib.hid (ltP_at' (show ((1000 : Nat) : Int) = 1000 from rfl) true h9)
        have hI : Hid ((∀ t, t < 1 → ltP u i l m n M t = false) ∧ (∀ t, 1000 ≤ t → t < 1001 → ltP u i l m n M t = true)) := Lib.hid ⟨fun t ht => by rw [show t = 0 by omega]; exact ltP_zero (by omega), fun t h1 h2 => by rw [show t = 1000 by omega]; exact h9⟩
        clear hc hq h9
        go_enter Try.func44, Try.ntmps44
        go_wp2_with fail
        generalize hW : ((w.alloc (Obj.cells #[.int .i64 z, .int .i64 u, .int .i64 i, .int .i64 l, .int .i64 m] 25)).alloc (Obj.cells #[.int .i64 n, .int .i64 k] 31)) = W
        have hE : Ext w W := by rw [← hW]; exact (((Ext.refl _).alloc _).alloc _)
        have hl0 : w.heap.size < W.heap.size := by rw [← hW]; simp; try omega
        have hl1 : w.heap.size + 1 < W.heap.size := by rw [← hW]; simp; try omega
        have f0_0 : W.cell? ⟨w.heap.size, 0, none⟩ = some (.int .i64 z) := by rw [← hW]; simp
        have f0_1 : W.cell? ⟨w.heap.size, 1, none⟩ = some (.int .i64 u) := by rw [← hW]; simp
        have f0_2 : W.cell? ⟨w.heap.size, 2, none⟩ = some (.int .i64 i) := by rw [← hW]; simp
        have f0_3 : W.cell? ⟨w.heap.size, 3, none⟩ = some (.int .i64 l) := by rw [← hW]; simp
        have f0_4 : W.cell? ⟨w.heap.size, 4, none⟩ = some (.int .i64 m) := by rw [← hW]; simp
        have f1_0 : W.cell? ⟨w.heap.size + 1, 0, none⟩ = some (.int .i64 n) := by rw [← hW]; simp
        have f1_1 : W.cell? ⟨w.heap.size + 1, 1, none⟩ = some (.int .i64 k) := by rw [← hW]; simp
        clear hW
        have x0 := Ext.refl W
        go_wp2_with (first | (go_at_call 59; refine (l11Beat_any z u i l m n k _).mono ?_; rintro e w1 ⟨rfl, x1⟩; (try clear xc xf xs); (first | replace x0 := x0.trans x1 | replace x0 := (x0.alloc _).trans x1 | replace x0 := (x0.drew).trans x1 | replace x0 := (x0.drew.alloc _).trans x1 | replace x0 := (x0.alloc _).drew.trans x1 | replace x0 := ((x0.alloc _).alloc _).trans x1 | have x0 := x1); clear x1; obtain ⟨xc, xf, xs⟩ := x0.cells) | (go_at_call 66; refine (l00In_any _ _ _ _).mono ?_; rintro e w1 ⟨rfl, rfl⟩) | (go_at_call 77; refine (l11All_any z u i l m 1000 n M _ hu hi hl hm (by omega) (by omega) (by omega)).mono ?_; rintro e w1 ⟨rfl, x1⟩; rw [h8.out]; (try clear xc xf xs); (first | replace x0 := x0.trans x1 | replace x0 := (x0.alloc _).trans x1 | replace x0 := (x0.drew).trans x1 | replace x0 := (x0.drew.alloc _).trans x1 | replace x0 := (x0.alloc _).drew.trans x1 | replace x0 := ((x0.alloc _).alloc _).trans x1 | have x0 := x1); clear x1; obtain ⟨xc, xf, xs⟩ := x0.cells))
        go_loopw [8, 9] (fun s8 s9 wr => ∃ (lo hh : Nat), s8 = .int .i64 lo ∧ s9 = .int .i64 hh ∧ lo ≤ hh ∧ hh ≤ 1000 ∧ Ext W wr ∧ Hid ((∀ t, t < lo → ltP u i l m n M t = false) ∧ (∀ t, hh ≤ t → t < 1001 → ltP u i l m n M t = true))) (fun a b _ => (intOf b).toNat - (intOf a).toNat)
        case atStart => exact ⟨1, 1000, rfl, rfl, by omega, Nat.le_refl _, x0, hI⟩
        case round =>
          clear x0 hI; (try clear xc xf xs)
          obtain ⟨lo, hh, rfl, rfl, hlh, hin, x0, I⟩ := hrel
          obtain ⟨xc, xf, xs⟩ := x0.cells
          by_cases hlt : lo < hh
          · obtain ⟨md, hmd⟩ : ∃ md, md = (lo + hh) / 2 := ⟨_, rfl⟩
            have hm1 : ((lo : Int) + (hh : Int)) / 2 = (md : Int) := by omega
            have hm2 : ((lo : Int) + (hh : Int)).tdiv 2 = (md : Int) := by rw [Int.tdiv_eq_ediv_of_nonneg (by omega)]; omega
            have t1 : (lo : Int) < (hh : Int) := by omega
            have hb1 : lo ≤ md := by omega
            have hb2 : md < hh := by omega
            clear hmd
            cases hp : ltP u i l m n M md
            · have HP := Lib.hid hp
              have h7 := Lib.hid (ltP_at false hp)
              clear hp
              go_wp2_with ((go_at_call 77; refine (l11All_any z u i l m md n M _ hu hi hl hm (by omega) (by omega) (by omega)).mono ?_; rintro e w1 ⟨rfl, x1⟩; rw [h7.out]; (try clear xc xf xs); (first | replace x0 := x0.trans x1 | replace x0 := (x0.alloc _).trans x1 | replace x0 := (x0.drew).trans x1 | replace x0 := (x0.drew.alloc _).trans x1 | replace x0 := (x0.alloc _).drew.trans x1 | replace x0 := ((x0.alloc _).alloc _).trans x1 | have x0 := x1); clear x1; obtain ⟨xc, xf, xs⟩ := x0.cells))
              go_roundw
              case rel => exact ⟨md + 1, hh, by first | rfl | go_num, by first | rfl | go_num, by omega, by omega, x0, Lib.hid ⟨fun t ht => (by
                  cases h : ltP u i l m n M t with
                  | false => rfl
                  | true => have := HM.out t md (by omega) (by omega) h; rw [HP.out] at this; cases this), I.out.2⟩⟩
              case measure => simp [intOf]; omega
            · have HP := Lib.hid hp
              have h7 := Lib.hid (ltP_at true hp)
              clear hp
              go_wp2_with ((go_at_call 77; refine (l11All_any z u i l m md n M _ hu hi hl hm (by omega) (by omega) (by omega)).mono ?_; rintro e w1 ⟨rfl, x1⟩; rw [h7.out]; (try clear xc xf xs); (first | replace x0 := x0.trans x1 | replace x0 := (x0.alloc _).trans x1 | replace x0 := (x0.drew).trans x1 | replace x0 := (x0.drew.alloc _).trans x1 | replace x0 := (x0.alloc _).drew.trans x1 | replace x0 := ((x0.alloc _).alloc _).trans x1 | have x0 := x1); clear x1; obtain ⟨xc, xf, xs⟩ := x0.cells))
              go_roundw
              case rel => exact ⟨lo, md, by first | rfl | go_num, by first | rfl | go_num, by omega, by omega, x0, Lib.hid ⟨I.out.1, fun t ht htn => HM.out md t ht htn HP.out⟩⟩
              case measure => simp [intOf]; omega
          · obtain rfl : hh = lo := by omega
            have hz := Lib.hid (show (hh : Int) = ltR z u i l m (M : Int) n k by rw [← e1.out, show ltQ u i l m (M : Int) n = hh from leastN_eq (by omega) I.out.1 I.out.2])
            have t1 : ¬ (hh : Int) < (hh : Int) := by omega
            go_wp2_with fail
            go_ret2
            exact ⟨ret2 hz.out e2.out, hE.trans x0⟩

set_option maxHeartbeats 4000000 in
theorem specLeastStart_any (z u i l m q N : Int) (w : World) :
    Calls Try.prog 42 #[.agg #[.int .i64 z, .int .i64 u, .int .i64 i, .int .i64 l, .int .i64 m], .int .i64 q, .int .i64 N] w fun e w' => e = .returned (.tuple #[.int .i64 (lsR z u i l m q N), .int .i64 (lsC z u i l m q N)]) ∧ Ext w w' := by
  cases h1 : vEsc z u i l m
  · have hc : lsCd z u i l m q N = 1 := by simp [lsCd, h1]
    have e1 := Lib.hid (show 0 = lsR z u i l m q N by simp [lsR, hc])
    have e2 := Lib.hid (show 1 = lsC z u i l m q N by simp [lsC, hc])
    clear hc
    go_enter Try.func42, Try.ntmps42
    go_wp2_with fail
    generalize hW : (w.alloc (Obj.cells #[.int .i64 z, .int .i64 u, .int .i64 i, .int .i64 l, .int .i64 m] 25)) = W
    have hE : Ext w W := by rw [← hW]; exact ((Ext.refl _).alloc _)
    have hl0 : w.heap.size < W.heap.size := by rw [← hW]; simp; try omega
    have f0_0 : W.cell? ⟨w.heap.size, 0, none⟩ = some (.int .i64 z) := by rw [← hW]; simp
    have f0_1 : W.cell? ⟨w.heap.size, 1, none⟩ = some (.int .i64 u) := by rw [← hW]; simp
    have f0_2 : W.cell? ⟨w.heap.size, 2, none⟩ = some (.int .i64 i) := by rw [← hW]; simp
    have f0_3 : W.cell? ⟨w.heap.size, 3, none⟩ = some (.int .i64 l) := by rw [← hW]; simp
    have f0_4 : W.cell? ⟨w.heap.size, 4, none⟩ = some (.int .i64 m) := by rw [← hW]; simp
    clear hW
    have x0 := Ext.refl W
    go_wp2_with (first | (go_at_call 57; refine (l11Ok_any z u i l m _).mono ?_; rintro e w1 ⟨rfl, x1⟩; (try clear xc xf xs); (first | replace x0 := x0.trans x1 | replace x0 := (x0.alloc _).trans x1 | replace x0 := (x0.drew).trans x1 | replace x0 := (x0.drew.alloc _).trans x1 | replace x0 := (x0.alloc _).drew.trans x1 | replace x0 := ((x0.alloc _).alloc _).trans x1 | have x0 := x1); clear x1; obtain ⟨xc, xf, xs⟩ := x0.cells) | (go_at_call 66; refine (l00In_any _ _ _ _).mono ?_; rintro e w1 ⟨rfl, rfl⟩))
    go_ret2
    exact ⟨ret2 e1.out e2.out, hE.trans x0⟩
  · skip
    cases h2 : inB q 0 1000
    · have hc : lsCd z u i l m q N = 2 := by simp [lsCd, h1, h2]
      have e1 := Lib.hid (show 0 = lsR z u i l m q N by simp [lsR, hc])
      have e2 := Lib.hid (show 2 = lsC z u i l m q N by simp [lsC, hc])
      clear hc
      go_enter Try.func42, Try.ntmps42
      go_wp2_with fail
      generalize hW : (w.alloc (Obj.cells #[.int .i64 z, .int .i64 u, .int .i64 i, .int .i64 l, .int .i64 m] 25)) = W
      have hE : Ext w W := by rw [← hW]; exact ((Ext.refl _).alloc _)
      have hl0 : w.heap.size < W.heap.size := by rw [← hW]; simp; try omega
      have f0_0 : W.cell? ⟨w.heap.size, 0, none⟩ = some (.int .i64 z) := by rw [← hW]; simp
      have f0_1 : W.cell? ⟨w.heap.size, 1, none⟩ = some (.int .i64 u) := by rw [← hW]; simp
      have f0_2 : W.cell? ⟨w.heap.size, 2, none⟩ = some (.int .i64 i) := by rw [← hW]; simp
      have f0_3 : W.cell? ⟨w.heap.size, 3, none⟩ = some (.int .i64 l) := by rw [← hW]; simp
      have f0_4 : W.cell? ⟨w.heap.size, 4, none⟩ = some (.int .i64 m) := by rw [← hW]; simp
      clear hW
      have x0 := Ext.refl W
      go_wp2_with (first | (go_at_call 57; refine (l11Ok_any z u i l m _).mono ?_; rintro e w1 ⟨rfl, x1⟩; (try clear xc xf xs); (first | replace x0 := x0.trans x1 | replace x0 := (x0.alloc _).trans x1 | replace x0 := (x0.drew).trans x1 | replace x0 := (x0.drew.alloc _).trans x1 | replace x0 := (x0.alloc _).drew.trans x1 | replace x0 := ((x0.alloc _).alloc _).trans x1 | have x0 := x1); clear x1; obtain ⟨xc, xf, xs⟩ := x0.cells) | (go_at_call 66; refine (l00In_any _ _ _ _).mono ?_; rintro e w1 ⟨rfl, rfl⟩))
      go_ret2
      exact ⟨ret2 e1.out e2.out, hE.trans x0⟩
    · skip
      cases h3 : inB N 1 2000
      · have hc : lsCd z u i l m q N = 2 := by simp [lsCd, h1, h2, h3]
        have e1 := Lib.hid (show 0 = lsR z u i l m q N by simp [lsR, hc])
        have e2 := Lib.hid (show 2 = lsC z u i l m q N by simp [lsC, hc])
        clear hc
        go_enter Try.func42, Try.ntmps42
        go_wp2_with fail
        generalize hW : (w.alloc (Obj.cells #[.int .i64 z, .int .i64 u, .int .i64 i, .int .i64 l, .int .i64 m] 25)) = W
        have hE : Ext w W := by rw [← hW]; exact ((Ext.refl _).alloc _)
        have hl0 : w.heap.size < W.heap.size := by rw [← hW]; simp; try omega
        have f0_0 : W.cell? ⟨w.heap.size, 0, none⟩ = some (.int .i64 z) := by rw [← hW]; simp
        have f0_1 : W.cell? ⟨w.heap.size, 1, none⟩ = some (.int .i64 u) := by rw [← hW]; simp
        have f0_2 : W.cell? ⟨w.heap.size, 2, none⟩ = some (.int .i64 i) := by rw [← hW]; simp
        have f0_3 : W.cell? ⟨w.heap.size, 3, none⟩ = some (.int .i64 l) := by rw [← hW]; simp
        have f0_4 : W.cell? ⟨w.heap.size, 4, none⟩ = some (.int .i64 m) := by rw [← hW]; simp
        clear hW
        have x0 := Ext.refl W
        go_wp2_with (first | (go_at_call 57; refine (l11Ok_any z u i l m _).mono ?_; rintro e w1 ⟨rfl, x1⟩; (try clear xc xf xs); (first | replace x0 := x0.trans x1 | replace x0 := (x0.alloc _).trans x1 | replace x0 := (x0.drew).trans x1 | replace x0 := (x0.drew.alloc _).trans x1 | replace x0 := (x0.alloc _).drew.trans x1 | replace x0 := ((x0.alloc _).alloc _).trans x1 | have x0 := x1); clear x1; obtain ⟨xc, xf, xs⟩ := x0.cells) | (go_at_call 66; refine (l00In_any _ _ _ _).mono ?_; rintro e w1 ⟨rfl, rfl⟩))
        go_ret2
        exact ⟨ret2 e1.out e2.out, hE.trans x0⟩
      · skip
        have hc : lsCd z u i l m q N = 0 := by simp [lsCd, h1, h2, h3]
        have ev := vEsc_iff.1 h1
        have hu := ev.bu; have hi := ev.bi; have hl := ev.bl
        have hm : 1 ≤ m ∧ m ≤ 100000 := by have := ev.bm; omega
        have hN := inB_iff.1 h3
        have hqq := inB_iff.1 h2
        clear ev
        obtain ⟨M, rfl⟩ : ∃ M : Nat, N = M := ⟨N.toNat, by omega⟩
        have hmt := Lib.hid (show (m + 1).toNat = m.toNat + 1 by omega)
        have hmz := Lib.hid (show ((m.toNat : Nat) : Int) = m by omega)
        have HM := Lib.hid (show ∀ a b, a ≤ b → b < (m + 1).toNat → lsP u i l m q M a = true → lsP u i l m q M b = true from fun a b hab _ hp => lsP_mono hl hab hp)
        cases h9 : lsP u i l m q M m.toNat
        · have hq : ¬ lsQ u i l m q (M : Int) ≤ m.toNat := by
              have := show lsQ u i l m q (M : Int) = m.toNat + 1 by unfold lsQ; rw [hmt.out]; exact leastN_no h9
              omega
          have e1 := Lib.hid (show 0 = lsR z u i l m q (M : Int) by rw [lsR, if_pos hc, if_neg hq])
          have e2 := Lib.hid (show 3 = lsC z u i l m q (M : Int) by rw [lsC, if_pos hc, if_neg hq])
          have h8 := Lib.hid (lsP_at' hmz.out false h9)
          clear hc hq h9
          go_enter Try.func42, Try.ntmps42
          go_wp2_with fail
          generalize hW : (w.alloc (Obj.cells #[.int .i64 z, .int .i64 u, .int .i64 i, .int .i64 l, .int .i64 m] 25)) = W
          have hE : Ext w W := by rw [← hW]; exact ((Ext.refl _).alloc _)
          have hl0 : w.heap.size < W.heap.size := by rw [← hW]; simp; try omega
          have f0_0 : W.cell? ⟨w.heap.size, 0, none⟩ = some (.int .i64 z) := by rw [← hW]; simp
          have f0_1 : W.cell? ⟨w.heap.size, 1, none⟩ = some (.int .i64 u) := by rw [← hW]; simp
          have f0_2 : W.cell? ⟨w.heap.size, 2, none⟩ = some (.int .i64 i) := by rw [← hW]; simp
          have f0_3 : W.cell? ⟨w.heap.size, 3, none⟩ = some (.int .i64 l) := by rw [← hW]; simp
          have f0_4 : W.cell? ⟨w.heap.size, 4, none⟩ = some (.int .i64 m) := by rw [← hW]; simp
          clear hW
          have x0 := Ext.refl W
          go_wp2_with (first | (go_at_call 57; refine (l11Ok_any z u i l m _).mono ?_; rintro e w1 ⟨rfl, x1⟩; (try clear xc xf xs); (first | replace x0 := x0.trans x1 | replace x0 := (x0.alloc _).trans x1 | replace x0 := (x0.drew).trans x1 | replace x0 := (x0.drew.alloc _).trans x1 | replace x0 := (x0.alloc _).drew.trans x1 | replace x0 := ((x0.alloc _).alloc _).trans x1 | have x0 := x1); clear x1; obtain ⟨xc, xf, xs⟩ := x0.cells) | (go_at_call 66; refine (l00In_any _ _ _ _).mono ?_; rintro e w1 ⟨rfl, rfl⟩) | (go_at_call 77; refine (l11All_any z u i l m q m M _ hu hi hl hm (by omega) (by omega) (by omega)).mono ?_; rintro e w1 ⟨rfl, x1⟩; rw [h8.out]; (try clear xc xf xs); (first | replace x0 := x0.trans x1 | replace x0 := (x0.alloc _).trans x1 | replace x0 := (x0.drew).trans x1 | replace x0 := (x0.drew.alloc _).trans x1 | replace x0 := (x0.alloc _).drew.trans x1 | replace x0 := ((x0.alloc _).alloc _).trans x1 | have x0 := x1); clear x1; obtain ⟨xc, xf, xs⟩ := x0.cells))
          go_ret2
          exact ⟨ret2 e1.out e2.out, hE.trans x0⟩
        · have hq : lsQ u i l m q (M : Int) ≤ m.toNat := by
              have := show lsQ u i l m q (M : Int) ≤ m.toNat by unfold lsQ; rw [hmt.out]; exact leastN_yes h9
              omega
          have e1 := Lib.hid (show (lsQ u i l m q (M : Int) : Int) = lsR z u i l m q (M : Int) by rw [lsR, if_pos hc, if_pos hq])
          have e2 := Lib.hid (show 0 = lsC z u i l m q (M : Int) by rw [lsC, if_pos hc, if_pos hq])
          have h8 := Lib.hid (lsP_at' hmz.out true h9)
          have hI : Hid ((∀ t, t < 0 → lsP u i l m q M t = false) ∧ (∀ t, m.toNat ≤ t → t < (m + 1).toNat → lsP u i l m q M t = true)) := Lib.hid ⟨fun t ht => by omega, fun t h1 h2 => by rw [show t = m.toNat by omega]; exact h9⟩
          clear hc hq h9
          go_enter Try.func42, Try.ntmps42
          go_wp2_with fail
          generalize hW : (w.alloc (Obj.cells #[.int .i64 z, .int .i64 u, .int .i64 i, .int .i64 l, .int .i64 m] 25)) = W
          have hE : Ext w W := by rw [← hW]; exact ((Ext.refl _).alloc _)
          have hl0 : w.heap.size < W.heap.size := by rw [← hW]; simp; try omega
          have f0_0 : W.cell? ⟨w.heap.size, 0, none⟩ = some (.int .i64 z) := by rw [← hW]; simp
          have f0_1 : W.cell? ⟨w.heap.size, 1, none⟩ = some (.int .i64 u) := by rw [← hW]; simp
          have f0_2 : W.cell? ⟨w.heap.size, 2, none⟩ = some (.int .i64 i) := by rw [← hW]; simp
          have f0_3 : W.cell? ⟨w.heap.size, 3, none⟩ = some (.int .i64 l) := by rw [← hW]; simp
          have f0_4 : W.cell? ⟨w.heap.size, 4, none⟩ = some (.int .i64 m) := by rw [← hW]; simp
          clear hW
          have x0 := Ext.refl W
          go_wp2_with (first | (go_at_call 57; refine (l11Ok_any z u i l m _).mono ?_; rintro e w1 ⟨rfl, x1⟩; (try clear xc xf xs); (first | replace x0 := x0.trans x1 | replace x0 := (x0.alloc _).trans x1 | replace x0 := (x0.drew).trans x1 | replace x0 := (x0.drew.alloc _).trans x1 | replace x0 := (x0.alloc _).drew.trans x1 | replace x0 := ((x0.alloc _).alloc _).trans x1 | have x0 := x1); clear x1; obtain ⟨xc, xf, xs⟩ := x0.cells) | (go_at_call 66; refine (l00In_any _ _ _ _).mono ?_; rintro e w1 ⟨rfl, rfl⟩) | (go_at_call 77; refine (l11All_any z u i l m q m M _ hu hi hl hm (by omega) (by omega) (by omega)).mono ?_; rintro e w1 ⟨rfl, x1⟩; rw [h8.out]; (try clear xc xf xs); (first | replace x0 := x0.trans x1 | replace x0 := (x0.alloc _).trans x1 | replace x0 := (x0.drew).trans x1 | replace x0 := (x0.drew.alloc _).trans x1 | replace x0 := (x0.alloc _).drew.trans x1 | replace x0 := ((x0.alloc _).alloc _).trans x1 | have x0 := x1); clear x1; obtain ⟨xc, xf, xs⟩ := x0.cells))
          go_loopw [8, 9] (fun s8 s9 wr => ∃ (lo hh : Nat), s8 = .int .i64 lo ∧ s9 = .int .i64 hh ∧ lo ≤ hh ∧ hh ≤ m.toNat ∧ Ext W wr ∧ Hid ((∀ t, t < lo → lsP u i l m q M t = false) ∧ (∀ t, hh ≤ t → t < (m + 1).toNat → lsP u i l m q M t = true))) (fun a b _ => (intOf b).toNat - (intOf a).toNat)
          case atStart => exact ⟨0, m.toNat, rfl, by rw [hmz.out], by omega, Nat.le_refl _, x0, hI⟩
          case round =>
            clear x0 hI; (try clear xc xf xs)
            obtain ⟨lo, hh, rfl, rfl, hlh, hin, x0, I⟩ := hrel
            obtain ⟨xc, xf, xs⟩ := x0.cells
            by_cases hlt : lo < hh
            · obtain ⟨md, hmd⟩ : ∃ md, md = (lo + hh) / 2 := ⟨_, rfl⟩
              have hm1 : ((lo : Int) + (hh : Int)) / 2 = (md : Int) := by omega
              have hm2 : ((lo : Int) + (hh : Int)).tdiv 2 = (md : Int) := by rw [Int.tdiv_eq_ediv_of_nonneg (by omega)]; omega
              have t1 : (lo : Int) < (hh : Int) := by omega
              have hb1 : lo ≤ md := by omega
              have hb2 : md < hh := by omega
              clear hmd
              cases hp : lsP u i l m q M md
              · have HP := Lib.hid hp
                have h7 := Lib.hid (lsP_at false hp)
                clear hp
                go_wp2_with ((go_at_call 77; refine (l11All_any z u i l m q md M _ hu hi hl hm (by omega) (by omega) (by omega)).mono ?_; rintro e w1 ⟨rfl, x1⟩; rw [h7.out]; (try clear xc xf xs); (first | replace x0 := x0.trans x1 | replace x0 := (x0.alloc _).trans x1 | replace x0 := (x0.drew).trans x1 | replace x0 := (x0.drew.alloc _).trans x1 | replace x0 := (x0.alloc _).drew.trans x1 | replace x0 := ((x0.alloc _).alloc _).trans x1 | have x0 := x1); clear x1; obtain ⟨xc, xf, xs⟩ := x0.cells))
                go_roundw
                case rel => exact ⟨md + 1, hh, by first | rfl | go_num, by first | rfl | go_num, by omega, by omega, x0, Lib.hid ⟨fun t ht => (by
                    cases h : lsP u i l m q M t with
                    | false => rfl
                    | true => have := HM.out t md (by omega) (by omega) h; rw [HP.out] at this; cases this), I.out.2⟩⟩
                case measure => simp [intOf]; omega
              · have HP := Lib.hid hp
                have h7 := Lib.hid (lsP_at true hp)
                clear hp
                go_wp2_with ((go_at_call 77; refine (l11All_any z u i l m q md M _ hu hi hl hm (by omega) (by omega) (by omega)).mono ?_; rintro e w1 ⟨rfl, x1⟩; rw [h7.out]; (try clear xc xf xs); (first | replace x0 := x0.trans x1 | replace x0 := (x0.alloc _).trans x1 | replace x0 := (x0.drew).trans x1 | replace x0 := (x0.drew.alloc _).trans x1 | replace x0 := (x0.alloc _).drew.trans x1 | replace x0 := ((x0.alloc _).alloc _).trans x1 | have x0 := x1); clear x1; obtain ⟨xc, xf, xs⟩ := x0.cells))
                go_roundw
                case rel => exact ⟨lo, md, by first | rfl | go_num, by first | rfl | go_num, by omega, by omega, x0, Lib.hid ⟨I.out.1, fun t ht htn => HM.out md t ht htn HP.out⟩⟩
                case measure => simp [intOf]; omega
            · obtain rfl : hh = lo := by omega
              have hz := Lib.hid (show (hh : Int) = lsR z u i l m q (M : Int) by rw [← e1.out, show lsQ u i l m q (M : Int) = hh from leastN_eq (by omega) I.out.1 I.out.2])
              have t1 : ¬ (hh : Int) < (hh : Int) := by omega
              go_wp2_with fail
              go_ret2
              exact ⟨ret2 hz.out e2.out, hE.trans x0⟩

end Go.Proofs.Ytehebhphlaghfaa
