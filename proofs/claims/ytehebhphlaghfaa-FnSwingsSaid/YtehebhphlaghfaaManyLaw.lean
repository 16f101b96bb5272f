/-
  Many swings with one torque: whole contracts, and the walk of the law.
-/
import Derived.Test.YtehebhphlaghfaaMany
import Derived.Deep.DeepCutAuto
namespace Go.Proofs.Ytehebhphlaghfaa
open Go.RowKit
set_option linter.unusedSimpArgs false
set_option linter.unusedVariables false

set_option maxHeartbeats 2000000 in
theorem implSwingMany_any (z u i l m q N n k : Int) (w : World) :
    Calls Try.prog 47 #[.agg #[.int .i64 z, .int .i64 u, .int .i64 i, .int .i64 l, .int .i64 m], .int .i64 q, .int .i64 N, .agg #[.int .i64 n, .int .i64 k]] w fun e w' => e = .returned (.tuple #[.agg #[.int .i64 (smE z u i l m q N n k), .int .i64 (smK z u i l m q N n k)], .int .i64 (smC z u i l m q N n k)]) ∧ Ext w w' := by
  cases h1 : vBeat z u i l m n k
  · skip
    have hc : cdM z u i l m q N n k = 1 := by simp [cdM, cdE, h1]
    have e1 := Lib.hid (show 0 = smE z u i l m q N n k by simp [smE, hc])
    have e2 := Lib.hid (show 0 = smK z u i l m q N n k by simp [smK, hc])
    have e4 := Lib.hid (show 1 = smC z u i l m q N n k by simp [smC, hc])
    clear hc
    go_enter Try.func47, Try.ntmps47
    go_wp2_with (first | (go_at_call 23; refine (implValidBeat_any z u i l m n k _).mono ?_; rintro e w1 ⟨rfl, x1⟩; (try clear xc xf xs); (first | replace x0 := x0.trans x1 | replace x0 := (x0.alloc _).trans x1 | replace x0 := (x0.drew).trans x1 | replace x0 := (x0.drew.alloc _).trans x1 | replace x0 := (x0.alloc _).drew.trans x1 | replace x0 := ((x0.alloc _).alloc _).trans x1 | have x0 := x1); clear x1; obtain ⟨xc, xf, xs⟩ := x0.cells))
    exact bodyPost_ret (v := .tuple #[.agg #[.int .i64 0, .int .i64 0], .int .i64 1]) (by simp [results, Try.results47, go_sem, *]) rfl ⟨st2 e1.out e2.out e4.out, by (repeat (refine Ext.setCell ?_ (by simp; try omega) _)); exact ((((Ext.refl _).alloc _).alloc _).alloc _).trans x0⟩
  · cases h2 : inB q 0 1000
    · skip
      have hc : cdM z u i l m q N n k = 2 := by simp [cdM, cdE, h1, h2]
      have e1 := Lib.hid (show 0 = smE z u i l m q N n k by simp [smE, hc])
      have e2 := Lib.hid (show 0 = smK z u i l m q N n k by simp [smK, hc])
      have e4 := Lib.hid (show 2 = smC z u i l m q N n k by simp [smC, hc])
      clear hc
      go_enter Try.func47, Try.ntmps47
      go_wp2_with (first | (go_at_call 23; refine (implValidBeat_any z u i l m n k _).mono ?_; rintro e w1 ⟨rfl, x1⟩; (try clear xc xf xs); (first | replace x0 := x0.trans x1 | replace x0 := (x0.alloc _).trans x1 | replace x0 := (x0.drew).trans x1 | replace x0 := (x0.drew.alloc _).trans x1 | replace x0 := (x0.alloc _).drew.trans x1 | replace x0 := ((x0.alloc _).alloc _).trans x1 | have x0 := x1); clear x1; obtain ⟨xc, xf, xs⟩ := x0.cells) | (go_at_call 64; refine (isTorque_any _ _).mono ?_; rintro e w1 ⟨rfl, rfl⟩))
      exact bodyPost_ret (v := .tuple #[.agg #[.int .i64 0, .int .i64 0], .int .i64 2]) (by simp [results, Try.results47, go_sem, *]) rfl ⟨st2 e1.out e2.out e4.out, by (repeat (refine Ext.setCell ?_ (by simp; try omega) _)); exact ((((Ext.refl _).alloc _).alloc _).alloc _).trans x0⟩
    · cases h3 : inB N 0 2000
      · skip
        have hc : cdM z u i l m q N n k = 2 := by simp [cdM, cdE, h1, h2, h3]
        have e1 := Lib.hid (show 0 = smE z u i l m q N n k by simp [smE, hc])
        have e2 := Lib.hid (show 0 = smK z u i l m q N n k by simp [smK, hc])
        have e4 := Lib.hid (show 2 = smC z u i l m q N n k by simp [smC, hc])
        clear hc
        go_enter Try.func47, Try.ntmps47
        go_wp2_with (first | (go_at_call 23; refine (implValidBeat_any z u i l m n k _).mono ?_; rintro e w1 ⟨rfl, x1⟩; (try clear xc xf xs); (first | replace x0 := x0.trans x1 | replace x0 := (x0.alloc _).trans x1 | replace x0 := (x0.drew).trans x1 | replace x0 := (x0.drew.alloc _).trans x1 | replace x0 := (x0.alloc _).drew.trans x1 | replace x0 := ((x0.alloc _).alloc _).trans x1 | have x0 := x1); clear x1; obtain ⟨xc, xf, xs⟩ := x0.cells) | (go_at_call 64; refine (isTorque_any _ _).mono ?_; rintro e w1 ⟨rfl, rfl⟩) | (go_at_call 58; refine (within_any _ _ _ _).mono ?_; rintro e w1 ⟨rfl, rfl⟩))
        exact bodyPost_ret (v := .tuple #[.agg #[.int .i64 0, .int .i64 0], .int .i64 2]) (by simp [results, Try.results47, go_sem, *]) rfl ⟨st2 e1.out e2.out e4.out, by (repeat (refine Ext.setCell ?_ (by simp; try omega) _)); exact ((((Ext.refl _).alloc _).alloc _).alloc _).trans x0⟩
      · exact implSwingMany_yes z u i l m q N n k w (by simp [cdM, cdE, h1, h2, h3])

set_option maxHeartbeats 2000000 in
theorem specSwingMany_any (z u i l m q N n k : Int) (w : World) :
    Calls Try.prog 46 #[.agg #[.int .i64 z, .int .i64 u, .int .i64 i, .int .i64 l, .int .i64 m], .int .i64 q, .int .i64 N, .agg #[.int .i64 n, .int .i64 k]] w fun e w' => e = .returned (.tuple #[.agg #[.int .i64 (smE z u i l m q N n k), .int .i64 (smK z u i l m q N n k)], .int .i64 (smC z u i l m q N n k)]) ∧ Ext w w' := by
  by_cases hz : cdE z u i l m q n k = 0
  · have f0 : (cdE z u i l m q n k == 0) = true := by rw [hz]; rfl
    cases h3 : inB N 0 2000
    · have hc : cdM z u i l m q N n k = 2 := by simp [cdM, hz, h3]
      have e1 := Lib.hid (show 0 = smE z u i l m q N n k by simp [smE, hc])
      have e2 := Lib.hid (show 0 = smK z u i l m q N n k by simp [smK, hc])
      have e4 := Lib.hid (show 2 = smC z u i l m q N n k by simp [smC, hc])
      clear hc hz
      go_enter Try.func46, Try.ntmps46
      go_wp2_with (first | (go_at_call 73; refine (l11Code_any z u i l m q n k _).mono ?_; rintro e w1 ⟨rfl, x1⟩; (try clear xc xf xs); (first | replace x0 := x0.trans x1 | replace x0 := (x0.alloc _).trans x1 | replace x0 := (x0.drew).trans x1 | replace x0 := (x0.drew.alloc _).trans x1 | replace x0 := (x0.alloc _).drew.trans x1 | replace x0 := ((x0.alloc _).alloc _).trans x1 | have x0 := x1); clear x1; obtain ⟨xc, xf, xs⟩ := x0.cells) | (go_at_call 66; refine (l00In_any _ _ _ _).mono ?_; rintro e w1 ⟨rfl, rfl⟩))
      exact bodyPost_ret (v := .tuple #[.agg #[.int .i64 0, .int .i64 0], .int .i64 2]) (by simp [results, Try.results46, go_sem, *]) rfl ⟨st2 e1.out e2.out e4.out, by (repeat (refine Ext.setCell ?_ (by simp; try omega) _)); exact ((((Ext.refl _).alloc _).alloc _).alloc _).trans x0⟩
    · exact specSwingMany_yes z u i l m q N n k w (by simp [cdM, hz, h3])
  · have f0 : (cdE z u i l m q n k == 0) = false := by simpa using hz
    have f1 : (cdE z u i l m q n k != 0) = true := by simpa using hz
    have hc : cdM z u i l m q N n k = cdE z u i l m q n k := by simp [cdM, hz]
    have e1 := Lib.hid (show 0 = smE z u i l m q N n k by simp [smE, hc, hz])
    have e2 := Lib.hid (show 0 = smK z u i l m q N n k by simp [smK, hc, hz])
    have e4 := Lib.hid (show cdE z u i l m q n k = smC z u i l m q N n k by simp [smC, hc, hz])
    clear hc hz
    go_enter Try.func46, Try.ntmps46
    go_wp2_with (first | (go_at_call 73; refine (l11Code_any z u i l m q n k _).mono ?_; rintro e w1 ⟨rfl, x1⟩; (try clear xc xf xs); (first | replace x0 := x0.trans x1 | replace x0 := (x0.alloc _).trans x1 | replace x0 := (x0.drew).trans x1 | replace x0 := (x0.drew.alloc _).trans x1 | replace x0 := (x0.alloc _).drew.trans x1 | replace x0 := ((x0.alloc _).alloc _).trans x1 | have x0 := x1); clear x1; obtain ⟨xc, xf, xs⟩ := x0.cells))
    exact bodyPost_ret (v := .tuple #[.agg #[.int .i64 0, .int .i64 0], .int .i64 (cdE z u i l m q n k)]) (by simp [results, Try.results46, go_sem, *]) rfl ⟨st2 e1.out e2.out e4.out, by (repeat (refine Ext.setCell ?_ (by simp; try omega) _)); exact ((((Ext.refl _).alloc _).alloc _).alloc _).trans x0⟩

set_option maxHeartbeats 4000000 in
theorem swingMany_walk (z u i l m q N n k : Int) (w : World) (b0 : -9223372036854775808 ≤ z ∧ z ≤ 9223372036854775807) (b1 : -9223372036854775808 ≤ u ∧ u ≤ 9223372036854775807) (b2 : -9223372036854775808 ≤ i ∧ i ≤ 9223372036854775807) (b3 : -9223372036854775808 ≤ l ∧ l ≤ 9223372036854775807) (b4 : -9223372036854775808 ≤ m ∧ m ≤ 9223372036854775807) (b5 : -9223372036854775808 ≤ q ∧ q ≤ 9223372036854775807) (b6 : -9223372036854775808 ≤ N ∧ N ≤ 9223372036854775807) (b7 : -9223372036854775808 ≤ n ∧ n ≤ 9223372036854775807) (b8 : -9223372036854775808 ≤ k ∧ k ≤ 9223372036854775807) :
    Calls Try.prog 13 #[.agg #[.int .i64 z, .int .i64 u, .int .i64 i, .int .i64 l, .int .i64 m], .int .i64 q, .int .i64 N, .agg #[.int .i64 n, .int .i64 k]] w fun e w' => e = .returned (.bool true) ∧ Ext w w' := by
  clear b0 b1 b2 b3 b4 b5 b6 b7 b8
  go_enter Try.func13, Try.ntmps13
  go_upto_region 1 with fail
  generalize hW : ((w.alloc (Obj.cells #[.int .i64 z, .int .i64 u, .int .i64 i, .int .i64 l, .int .i64 m] 23)).alloc (Obj.cells #[.int .i64 n, .int .i64 k] 29)) = W
  have hE : Ext w W := by rw [← hW]; exact (((Ext.refl _).alloc _).alloc _)
  have hl0 : w.heap.size < W.heap.size := by rw [← hW]; simp; try omega
  have hl1 : w.heap.size + 1 < W.heap.size := by rw [← hW]; simp; try omega
  have f0_0 : W.cell? ⟨w.heap.size, 0, none⟩ = some (.int .i64 z) := by rw [← hW]; simp
  have f0_1 : W.cell? ⟨w.heap.size, 1, none⟩ = some (.int .i64 u) := by rw [← hW]; simp
  have f0_2 : W.cell? ⟨w.heap.size, 2, none⟩ = some (.int .i64 i) := by rw [← hW]; simp
  have f0_3 : W.cell? ⟨w.heap.size, 3, none⟩ = some (.int .i64 l) := by rw [← hW]; simp
  have f0_4 : W.cell? ⟨w.heap.size, 4, none⟩ = some (.int .i64 m) := by rw [← hW]; simp
  have f1_0 : W.cell? ⟨w.heap.size + 1, 0, none⟩ = some (.int .i64 n) := by rw [← hW]; simp
  have f1_1 : W.cell? ⟨w.heap.size + 1, 1, none⟩ = some (.int .i64 k) := by rw [← hW]; simp
  clear hW
  have hk0 := Nat.ne_of_gt hl0
  have hk1 := Nat.ne_of_gt hl1
  have x0 := Ext.refl W
  go_cut [9, 10] (fun s9 s10 wx => ∃ g : Nat, s9 = .pointer (some ⟨g, 0, none⟩) ∧ s10 = .int .i64 (smC z u i l m q N n k) ∧ Ext W wx ∧ wx.cell? ⟨g, 0, none⟩ = some (.int .i64 (smE z u i l m q N n k)) ∧ wx.cell? ⟨g, 1, none⟩ = some (.int .i64 (smK z u i l m q N n k)))
  case first =>
    go_region_held3 (fun w' => w'.cell? ⟨w.heap.size, 0, none⟩ = some (.int .i64 z) ∧ w'.cell? ⟨w.heap.size, 1, none⟩ = some (.int .i64 u) ∧ w'.cell? ⟨w.heap.size, 2, none⟩ = some (.int .i64 i) ∧ w'.cell? ⟨w.heap.size, 3, none⟩ = some (.int .i64 l) ∧ w'.cell? ⟨w.heap.size, 4, none⟩ = some (.int .i64 m) ∧ w'.cell? ⟨w.heap.size + 1, 0, none⟩ = some (.int .i64 n) ∧ w'.cell? ⟨w.heap.size + 1, 1, none⟩ = some (.int .i64 k))
    (first | (refine ⟨?_, ?_, ?_, ?_, ?_, ?_, ?_⟩ <;> (refine (xc _ _ ?_).trans ?_ <;> assumption)) | (refine ⟨?_, ?_, ?_, ?_, ?_, ?_, ?_⟩ <;> assumption) | go_keep)
    (first | (go_at_call 19; refine (toEscapement_any _ _ _ _ _ _).mono ?_; rintro e w1 ⟨rfl, x1⟩; (try clear xc xf); obtain ⟨yc, yf, yl⟩ := x1.keeps; (first | have hn0 := Nat.lt_of_lt_of_le hn0 x1.size | have hn0 := Nat.lt_of_lt_of_le (lt_da W _) x1.size | have hn0 := Nat.lt_of_lt_of_le (lt_ad W _) x1.size | skip); (first | replace x0 := x0.trans x1 | replace x0 := (x0.alloc _).trans x1 | replace x0 := (x0.drew).trans x1 | replace x0 := (x0.drew.alloc _).trans x1 | replace x0 := (x0.alloc _).drew.trans x1 | replace x0 := ((x0.alloc _).alloc _).trans x1 | have x0 := x1); clear x1; obtain ⟨xc, xf, xs⟩ := x0.cells; have hm0 : w1.heap.size ≠ w.heap.size := (by omega); have hm1 : w1.heap.size ≠ w.heap.size + 1 := (by omega)) | (go_at_call 22; refine (toBeat_any _ _ _).mono ?_; rintro e w1 ⟨rfl, x1⟩; (try clear xc xf); obtain ⟨yc, yf, yl⟩ := x1.keeps; (first | have hn0 := Nat.lt_of_lt_of_le hn0 x1.size | have hn0 := Nat.lt_of_lt_of_le (lt_da W _) x1.size | have hn0 := Nat.lt_of_lt_of_le (lt_ad W _) x1.size | skip); (first | replace x0 := x0.trans x1 | replace x0 := (x0.alloc _).trans x1 | replace x0 := (x0.drew).trans x1 | replace x0 := (x0.drew.alloc _).trans x1 | replace x0 := (x0.alloc _).drew.trans x1 | replace x0 := ((x0.alloc _).alloc _).trans x1 | have x0 := x1); clear x1; obtain ⟨xc, xf, xs⟩ := x0.cells; have hm0 : w1.heap.size ≠ w.heap.size := (by omega); have hm1 : w1.heap.size ≠ w.heap.size + 1 := (by omega)) | (go_at_call 46; refine (specSwingMany_any z u i l m q N n k _).mono ?_; rintro e w1 ⟨rfl, x1⟩; (try clear xc xf); obtain ⟨yc, yf, yl⟩ := x1.keeps; (first | have hn0 := Nat.lt_of_lt_of_le hn0 x1.size | have hn0 := Nat.lt_of_lt_of_le (lt_da W _) x1.size | have hn0 := Nat.lt_of_lt_of_le (lt_ad W _) x1.size | skip); (first | replace x0 := x0.trans x1 | replace x0 := (x0.alloc _).trans x1 | replace x0 := (x0.drew).trans x1 | replace x0 := (x0.drew.alloc _).trans x1 | replace x0 := (x0.alloc _).drew.trans x1 | replace x0 := ((x0.alloc _).alloc _).trans x1 | have x0 := x1); clear x1; obtain ⟨xc, xf, xs⟩ := x0.cells; have hm0 : w1.heap.size ≠ w.heap.size := (by omega); have hm1 : w1.heap.size ≠ w.heap.size + 1 := (by omega)))
    all_goals (go_wp2_with fail; go_meet; refine ⟨_, rfl, rfl, ?_, ?_, ?_⟩)
    all_goals first | (simp [go_sem, *]; done) | (refine two0 _ _ _ _ ?_; simp [*]; done) | (refine two1 _ _ _ _ ?_; simp [*]; done) | (repeat (first | exact x0 | refine Ext.setCell ?_ (by simp; try omega) _ | refine Ext.alloc ?_ _ | refine Ext.drew ?_ | refine Ext.trans ?_ (by assumption)))
  case rest =>
  obtain ⟨g, rfl, rfl, x0, fg_0, fg_1⟩ := hcut
  obtain ⟨xc, xf, xs⟩ := x0.cells
  have f0_0 := (xc _ _ hl0).trans f0_0
  have f0_1 := (xc _ _ hl0).trans f0_1
  have f0_2 := (xc _ _ hl0).trans f0_2
  have f0_3 := (xc _ _ hl0).trans f0_3
  have f0_4 := (xc _ _ hl0).trans f0_4
  have f1_0 := (xc _ _ hl1).trans f1_0
  have f1_1 := (xc _ _ hl1).trans f1_1
  have hl0 := Nat.lt_of_lt_of_le hl0 x0.size
  have hk0 := Nat.ne_of_gt hl0
  have hl1 := Nat.lt_of_lt_of_le hl1 x0.size
  have hk1 := Nat.ne_of_gt hl1
  have hE := hE.trans x0
  clear xc xf xs x0
  rename World => W
  have hl_g : g < W.heap.size := World.block_lt_of_cell? _ _ fg_0
  have hk_g := Nat.ne_of_gt hl_g
  have x0 := Ext.refl W
  go_upto_region 2 with fail
  go_cut [11, 12] (fun s11 s12 wx => ∃ g : Nat, s11 = .pointer (some ⟨g, 0, none⟩) ∧ s12 = .int .i64 (smC z u i l m q N n k) ∧ Ext W wx ∧ wx.cell? ⟨g, 0, none⟩ = some (.int .i64 (smE z u i l m q N n k)) ∧ wx.cell? ⟨g, 1, none⟩ = some (.int .i64 (smK z u i l m q N n k)))
  case first =>
    go_region_held3 (fun w' => w'.cell? ⟨w.heap.size, 0, none⟩ = some (.int .i64 z) ∧ w'.cell? ⟨w.heap.size, 1, none⟩ = some (.int .i64 u) ∧ w'.cell? ⟨w.heap.size, 2, none⟩ = some (.int .i64 i) ∧ w'.cell? ⟨w.heap.size, 3, none⟩ = some (.int .i64 l) ∧ w'.cell? ⟨w.heap.size, 4, none⟩ = some (.int .i64 m) ∧ w'.cell? ⟨w.heap.size + 1, 0, none⟩ = some (.int .i64 n) ∧ w'.cell? ⟨w.heap.size + 1, 1, none⟩ = some (.int .i64 k) ∧ w'.cell? ⟨g, 0, none⟩ = some (.int .i64 (smE z u i l m q N n k)) ∧ w'.cell? ⟨g, 1, none⟩ = some (.int .i64 (smK z u i l m q N n k)))
    (first | (refine ⟨?_, ?_, ?_, ?_, ?_, ?_, ?_, ?_, ?_⟩ <;> (refine (xc _ _ ?_).trans ?_ <;> assumption)) | (refine ⟨?_, ?_, ?_, ?_, ?_, ?_, ?_, ?_, ?_⟩ <;> assumption) | go_keep)
    (first | (go_at_call 19; refine (toEscapement_any _ _ _ _ _ _).mono ?_; rintro e w1 ⟨rfl, x1⟩; (try clear xc xf); obtain ⟨yc, yf, yl⟩ := x1.keeps; (first | have hn0 := Nat.lt_of_lt_of_le hn0 x1.size | have hn0 := Nat.lt_of_lt_of_le (lt_da W _) x1.size | have hn0 := Nat.lt_of_lt_of_le (lt_ad W _) x1.size | skip); (first | replace x0 := x0.trans x1 | replace x0 := (x0.alloc _).trans x1 | replace x0 := (x0.drew).trans x1 | replace x0 := (x0.drew.alloc _).trans x1 | replace x0 := (x0.alloc _).drew.trans x1 | replace x0 := ((x0.alloc _).alloc _).trans x1 | have x0 := x1); clear x1; obtain ⟨xc, xf, xs⟩ := x0.cells; have hm0 : w1.heap.size ≠ w.heap.size := (by omega); have hm1 : w1.heap.size ≠ w.heap.size + 1 := (by omega); have hm_g : w1.heap.size ≠ g := (by omega)) | (go_at_call 22; refine (toBeat_any _ _ _).mono ?_; rintro e w1 ⟨rfl, x1⟩; (try clear xc xf); obtain ⟨yc, yf, yl⟩ := x1.keeps; (first | have hn0 := Nat.lt_of_lt_of_le hn0 x1.size | have hn0 := Nat.lt_of_lt_of_le (lt_da W _) x1.size | have hn0 := Nat.lt_of_lt_of_le (lt_ad W _) x1.size | skip); (first | replace x0 := x0.trans x1 | replace x0 := (x0.alloc _).trans x1 | replace x0 := (x0.drew).trans x1 | replace x0 := (x0.drew.alloc _).trans x1 | replace x0 := (x0.alloc _).drew.trans x1 | replace x0 := ((x0.alloc _).alloc _).trans x1 | have x0 := x1); clear x1; obtain ⟨xc, xf, xs⟩ := x0.cells; have hm0 : w1.heap.size ≠ w.heap.size := (by omega); have hm1 : w1.heap.size ≠ w.heap.size + 1 := (by omega); have hm_g : w1.heap.size ≠ g := (by omega)) | (go_at_call 47; refine (implSwingMany_any z u i l m q N n k _).mono ?_; rintro e w1 ⟨rfl, x1⟩; (try clear xc xf); obtain ⟨yc, yf, yl⟩ := x1.keeps; (first | have hn0 := Nat.lt_of_lt_of_le hn0 x1.size | have hn0 := Nat.lt_of_lt_of_le (lt_da W _) x1.size | have hn0 := Nat.lt_of_lt_of_le (lt_ad W _) x1.size | skip); (first | replace x0 := x0.trans x1 | replace x0 := (x0.alloc _).trans x1 | replace x0 := (x0.drew).trans x1 | replace x0 := (x0.drew.alloc _).trans x1 | replace x0 := (x0.alloc _).drew.trans x1 | replace x0 := ((x0.alloc _).alloc _).trans x1 | have x0 := x1); clear x1; obtain ⟨xc, xf, xs⟩ := x0.cells; have hm0 : w1.heap.size ≠ w.heap.size := (by omega); have hm1 : w1.heap.size ≠ w.heap.size + 1 := (by omega); have hm_g : w1.heap.size ≠ g := (by omega)))
    all_goals (go_wp2_with fail; go_meet; refine ⟨_, rfl, rfl, ?_, ?_, ?_⟩)
    all_goals first | (simp [go_sem, *]; done) | (refine two0 _ _ _ _ ?_; simp [*]; done) | (refine two1 _ _ _ _ ?_; simp [*]; done) | (repeat (first | exact x0 | refine Ext.setCell ?_ (by simp; try omega) _ | refine Ext.alloc ?_ _ | refine Ext.drew ?_ | refine Ext.trans ?_ (by assumption)))
  case rest =>
  obtain ⟨gg, rfl, rfl, x0, fgg_0, fgg_1⟩ := hcut
  obtain ⟨xc, xf, xs⟩ := x0.cells
  have f0_0 := (xc _ _ hl0).trans f0_0
  have f0_1 := (xc _ _ hl0).trans f0_1
  have f0_2 := (xc _ _ hl0).trans f0_2
  have f0_3 := (xc _ _ hl0).trans f0_3
  have f0_4 := (xc _ _ hl0).trans f0_4
  have f1_0 := (xc _ _ hl1).trans f1_0
  have f1_1 := (xc _ _ hl1).trans f1_1
  have hl0 := Nat.lt_of_lt_of_le hl0 x0.size
  have hk0 := Nat.ne_of_gt hl0
  have hl1 := Nat.lt_of_lt_of_le hl1 x0.size
  have hk1 := Nat.ne_of_gt hl1
  have fg_0 := (xc _ _ hl_g).trans fg_0
  have fg_1 := (xc _ _ hl_g).trans fg_1
  have hl_g := Nat.lt_of_lt_of_le hl_g x0.size
  have hk_g := Nat.ne_of_gt hl_g
  have hE := hE.trans x0
  clear xc xf xs x0
  rename World => W
  have hl_gg : gg < W.heap.size := World.block_lt_of_cell? _ _ fgg_0
  have hk_gg := Nat.ne_of_gt hl_gg
  have x0 := Ext.refl W
  go_wp2_with (go_at_call 38; refine (eqBeat_same _ _ _).mono ?_; rintro e w1 ⟨rfl, x1⟩; (try clear xc xf xs); (first | replace x0 := x0.trans x1 | replace x0 := (x0.alloc _).trans x1 | replace x0 := (x0.drew).trans x1 | replace x0 := (x0.drew.alloc _).trans x1 | replace x0 := (x0.alloc _).drew.trans x1 | replace x0 := ((x0.alloc _).alloc _).trans x1 | have x0 := x1); clear x1; obtain ⟨xc, xf, xs⟩ := x0.cells)
  go_ret
  exact ⟨rfl, hE.trans x0⟩

end Go.Proofs.Ytehebhphlaghfaa
