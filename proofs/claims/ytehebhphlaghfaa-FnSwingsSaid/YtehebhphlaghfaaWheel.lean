/-
  The turns of the wheel, and the walk of their law.
-/
import Derived.Test.YtehebhphlaghfaaMakeR
import Derived.Test.YtehebhphlaghfaaEsc
import Derived.Deep.DeepCutAuto
namespace Go.Proofs.Ytehebhphlaghfaa
open Go.RowKit
set_option linter.unusedSimpArgs false
set_option linter.unusedVariables false

def wtN (z u i l m n k : Int) : Int := if vBeat z u i l m n k = true then mkN k (2 * z) else 0
def wtD (z u i l m n k : Int) : Int := if vBeat z u i l m n k = true then mkD k (2 * z) else 0
def wtC (z u i l m n k : Int) : Int := if vBeat z u i l m n k = true then mkC k (2 * z) else 1

set_option maxHeartbeats 2000000 in
theorem implWheel_any (z u i l m n k : Int) (w : World) :
    Calls Try.prog 40 #[.agg #[.int .i64 z, .int .i64 u, .int .i64 i, .int .i64 l, .int .i64 m], .agg #[.int .i64 n, .int .i64 k]] w fun e w' => e = .returned (.tuple #[.agg #[.int .i64 (wtN z u i l m n k), .int .i64 (wtD z u i l m n k)], .int .i64 (wtC z u i l m n k)]) ∧ Ext w w' := by
  cases h1 : vBeat z u i l m n k
  · skip
    have e1 := Lib.hid (show 0 = wtN z u i l m n k by simp [wtN, h1])
    have e2 := Lib.hid (show 0 = wtD z u i l m n k by simp [wtD, h1])
    have e3 := Lib.hid (show 1 = wtC z u i l m n k by simp [wtC, h1])
    go_enter Try.func40, Try.ntmps40
    go_wp2_with (first | (go_at_call 23; refine (implValidBeat_any z u i l m n k _).mono ?_; rintro e w1 ⟨rfl, x1⟩; (try clear xc xf xs); (first | replace x0 := x0.trans x1 | replace x0 := (x0.alloc _).trans x1 | replace x0 := (x0.drew).trans x1 | replace x0 := (x0.drew.alloc _).trans x1 | replace x0 := (x0.alloc _).drew.trans x1 | replace x0 := ((x0.alloc _).alloc _).trans x1 | have x0 := x1); clear x1; obtain ⟨xc, xf, xs⟩ := x0.cells))
    exact bodyPost_ret (v := .tuple #[.agg #[.int .i64 (0), .int .i64 (0)], .int .i64 (1)]) (by simp [results, Try.results40, go_sem, *]) rfl ⟨rt2 e1.out e2.out e3.out, by (repeat (refine Ext.setCell ?_ (by simp; try omega) _)); exact ((((Ext.refl _).alloc _).alloc _).alloc _).trans x0⟩
  · have hv : (6 ≤ z ∧ z ≤ 120) ∧ (0 ≤ k ∧ k ≤ 1000000000) := by
      simp only [vBeat, Bool.and_eq_true] at h1
      exact ⟨(vEsc_iff.1 h1.1).bz, (vBt_iff.1 h1.2).2⟩
    have e1 := Lib.hid (show mkN k (2 * z) = wtN z u i l m n k by simp [wtN, h1])
    have e2 := Lib.hid (show mkD k (2 * z) = wtD z u i l m n k by simp [wtD, h1])
    have e3 := Lib.hid (show mkC k (2 * z) = wtC z u i l m n k by simp [wtC, h1])
    go_enter Try.func40, Try.ntmps40
    go_wp2_with (first | (go_at_call 23; refine (implValidBeat_any z u i l m n k _).mono ?_; rintro e w1 ⟨rfl, x1⟩; (try clear xc xf xs); (first | replace x0 := x0.trans x1 | replace x0 := (x0.alloc _).trans x1 | replace x0 := (x0.drew).trans x1 | replace x0 := (x0.drew.alloc _).trans x1 | replace x0 := (x0.alloc _).drew.trans x1 | replace x0 := ((x0.alloc _).alloc _).trans x1 | have x0 := x1); clear x1; obtain ⟨xc, xf, xs⟩ := x0.cells) | (go_at_call 76; refine (makeRatio_any k (2 * z) _ (by omega) (by omega)).mono ?_; rintro e w1 ⟨rfl, x1⟩; (try clear xc xf xs); (first | replace x0 := x0.trans x1 | replace x0 := (x0.alloc _).trans x1 | replace x0 := (x0.drew).trans x1 | replace x0 := (x0.drew.alloc _).trans x1 | replace x0 := (x0.alloc _).drew.trans x1 | replace x0 := ((x0.alloc _).alloc _).trans x1 | have x0 := x1); clear x1; obtain ⟨xc, xf, xs⟩ := x0.cells))
    exact bodyPost_ret (v := .tuple #[.agg #[.int .i64 (mkN k (2 * z)), .int .i64 (mkD k (2 * z))], .int .i64 (mkC k (2 * z))]) (by simp [results, Try.results40, go_sem, *]) rfl ⟨rt2 e1.out e2.out e3.out, by (repeat (refine Ext.setCell ?_ (by simp; try omega) _)); exact ((((Ext.refl _).alloc _).alloc _).alloc _).trans x0⟩

set_option maxHeartbeats 2000000 in
theorem specWheel_any (z u i l m n k : Int) (w : World) :
    Calls Try.prog 39 #[.agg #[.int .i64 z, .int .i64 u, .int .i64 i, .int .i64 l, .int .i64 m], .agg #[.int .i64 n, .int .i64 k]] w fun e w' => e = .returned (.tuple #[.agg #[.int .i64 (wtN z u i l m n k), .int .i64 (wtD z u i l m n k)], .int .i64 (wtC z u i l m n k)]) ∧ Ext w w' := by
  cases h1 : vBeat z u i l m n k
  · skip
    have e1 := Lib.hid (show 0 = wtN z u i l m n k by simp [wtN, h1])
    have e2 := Lib.hid (show 0 = wtD z u i l m n k by simp [wtD, h1])
    have e3 := Lib.hid (show 1 = wtC z u i l m n k by simp [wtC, h1])
    go_enter Try.func39, Try.ntmps39
    go_wp2_with (first | (go_at_call 59; refine (l11Beat_any z u i l m n k _).mono ?_; rintro e w1 ⟨rfl, x1⟩; (try clear xc xf xs); (first | replace x0 := x0.trans x1 | replace x0 := (x0.alloc _).trans x1 | replace x0 := (x0.drew).trans x1 | replace x0 := (x0.drew.alloc _).trans x1 | replace x0 := (x0.alloc _).drew.trans x1 | replace x0 := ((x0.alloc _).alloc _).trans x1 | have x0 := x1); clear x1; obtain ⟨xc, xf, xs⟩ := x0.cells))
    exact bodyPost_ret (v := .tuple #[.agg #[.int .i64 (0), .int .i64 (0)], .int .i64 (1)]) (by simp [results, Try.results39, go_sem, *]) rfl ⟨rt2 e1.out e2.out e3.out, by (repeat (refine Ext.setCell ?_ (by simp; try omega) _)); exact ((((Ext.refl _).alloc _).alloc _).alloc _).trans x0⟩
  · have hv : (6 ≤ z ∧ z ≤ 120) ∧ (0 ≤ k ∧ k ≤ 1000000000) := by
      simp only [vBeat, Bool.and_eq_true] at h1
      exact ⟨(vEsc_iff.1 h1.1).bz, (vBt_iff.1 h1.2).2⟩
    have e1 := Lib.hid (show mkN k (2 * z) = wtN z u i l m n k by simp [wtN, h1])
    have e2 := Lib.hid (show mkD k (2 * z) = wtD z u i l m n k by simp [wtD, h1])
    have e3 := Lib.hid (show mkC k (2 * z) = wtC z u i l m n k by simp [wtC, h1])
    go_enter Try.func39, Try.ntmps39
    go_wp2_with (first | (go_at_call 59; refine (l11Beat_any z u i l m n k _).mono ?_; rintro e w1 ⟨rfl, x1⟩; (try clear xc xf xs); (first | replace x0 := x0.trans x1 | replace x0 := (x0.alloc _).trans x1 | replace x0 := (x0.drew).trans x1 | replace x0 := (x0.drew.alloc _).trans x1 | replace x0 := (x0.alloc _).drew.trans x1 | replace x0 := ((x0.alloc _).alloc _).trans x1 | have x0 := x1); clear x1; obtain ⟨xc, xf, xs⟩ := x0.cells) | (go_at_call 75; refine (l02Make_any k (2 * z) _ (by omega) (by omega) (by omega)).mono ?_; rintro e w1 ⟨rfl, x1⟩; (try clear xc xf xs); (first | replace x0 := x0.trans x1 | replace x0 := (x0.alloc _).trans x1 | replace x0 := (x0.drew).trans x1 | replace x0 := (x0.drew.alloc _).trans x1 | replace x0 := (x0.alloc _).drew.trans x1 | replace x0 := ((x0.alloc _).alloc _).trans x1 | have x0 := x1); clear x1; obtain ⟨xc, xf, xs⟩ := x0.cells) | (go_at_call 74; refine (l02Code_any k (2 * z) _ (by omega)).mono ?_; rintro e w1 ⟨rfl, x1⟩; (try clear xc xf xs); (first | replace x0 := x0.trans x1 | replace x0 := (x0.alloc _).trans x1 | replace x0 := (x0.drew).trans x1 | replace x0 := (x0.drew.alloc _).trans x1 | replace x0 := (x0.alloc _).drew.trans x1 | replace x0 := ((x0.alloc _).alloc _).trans x1 | have x0 := x1); clear x1; obtain ⟨xc, xf, xs⟩ := x0.cells))
    exact bodyPost_ret (v := .tuple #[.agg #[.int .i64 (mkN k (2 * z)), .int .i64 (mkD k (2 * z))], .int .i64 (mkC k (2 * z))]) (by simp [results, Try.results39, go_sem, *]) rfl ⟨rt2 e1.out e2.out e3.out, by (repeat (refine Ext.setCell ?_ (by simp; try omega) _)); exact ((((Ext.refl _).alloc _).alloc _).alloc _).trans x0⟩

set_option maxHeartbeats 4000000 in
theorem wheelTurns_walk (z u i l m n k : Int) (w : World) (b0 : -9223372036854775808 ≤ z ∧ z ≤ 9223372036854775807) (b1 : -9223372036854775808 ≤ u ∧ u ≤ 9223372036854775807) (b2 : -9223372036854775808 ≤ i ∧ i ≤ 9223372036854775807) (b3 : -9223372036854775808 ≤ l ∧ l ≤ 9223372036854775807) (b4 : -9223372036854775808 ≤ m ∧ m ≤ 9223372036854775807) (b5 : -9223372036854775808 ≤ n ∧ n ≤ 9223372036854775807) (b6 : -9223372036854775808 ≤ k ∧ k ≤ 9223372036854775807) :
    Calls Try.prog 10 #[.agg #[.int .i64 z, .int .i64 u, .int .i64 i, .int .i64 l, .int .i64 m], .agg #[.int .i64 n, .int .i64 k]] w fun e w' => e = .returned (.bool true) ∧ Ext w w' := by
  clear b0 b1 b2 b3 b4 b5 b6
  go_enter Try.func10, Try.ntmps10
  go_upto_region 1 with fail
  generalize hW : ((w.alloc (Obj.cells #[.int .i64 z, .int .i64 u, .int .i64 i, .int .i64 l, .int .i64 m] 23)).alloc (Obj.cells #[.int .i64 n, .int .i64 k] 29)) = W
  have hE : Ext w W := by rw [← hW]; exact (((Ext.refl _).alloc _).alloc _)
  have hl0 : w.heap.size < W.heap.size := by rw [← hW]; simp; try omega
  have hl1 : w.heap.size + 1 < W.heap.size := by rw [← hW]; simp; try omega
  have f0_0 : W.cell? ⟨w.heap.size, 0, none⟩ = some (.int .i64 z) := by rw [← hW]; simp
  have f0_1 : W.cell? ⟨w.heap.size, 1, none⟩ = some (.int .i64 u) := by rw [← hW]; simp
  have f0_2 : W.cell? ⟨w.heap.size, 2, none⟩ = some (.int .i64 i) := by rw [← hW]; simp
  have f0_3 : W.cell? ⟨w.heap.size, 3, none⟩ = some (.int .i64 l) := by rw [← hW]; simp
  have f0_4 : W.cell? ⟨w.heap.size, 4, none⟩ = some (.int .i64 m) := by rw [← hW]; simp
  have f1_0 : W.cell? ⟨w.heap.size + 1, 0, none⟩ = some (.int .i64 n) := by rw [← hW]; simp
  have f1_1 : W.cell? ⟨w.heap.size + 1, 1, none⟩ = some (.int .i64 k) := by rw [← hW]; simp
  clear hW
  have hk0 := Nat.ne_of_gt hl0
  have hk1 := Nat.ne_of_gt hl1
  have x0 := Ext.refl W
  go_cut [5, 6] (fun s5 s6 wx => ∃ g : Nat, s5 = .pointer (some ⟨g, 0, none⟩) ∧ s6 = .int .i64 (wtC z u i l m n k) ∧ Ext W wx ∧ wx.cell? ⟨g, 0, none⟩ = some (.int .i64 (wtN z u i l m n k)) ∧ wx.cell? ⟨g, 1, none⟩ = some (.int .i64 (wtD z u i l m n k)))
  case first =>
    go_region_held3 (fun w' => w'.cell? ⟨w.heap.size, 0, none⟩ = some (.int .i64 z) ∧ w'.cell? ⟨w.heap.size, 1, none⟩ = some (.int .i64 u) ∧ w'.cell? ⟨w.heap.size, 2, none⟩ = some (.int .i64 i) ∧ w'.cell? ⟨w.heap.size, 3, none⟩ = some (.int .i64 l) ∧ w'.cell? ⟨w.heap.size, 4, none⟩ = some (.int .i64 m) ∧ w'.cell? ⟨w.heap.size + 1, 0, none⟩ = some (.int .i64 n) ∧ w'.cell? ⟨w.heap.size + 1, 1, none⟩ = some (.int .i64 k))
    (first | (refine ⟨?_, ?_, ?_, ?_, ?_, ?_, ?_⟩ <;> (refine (xc _ _ ?_).trans ?_ <;> assumption)) | (refine ⟨?_, ?_, ?_, ?_, ?_, ?_, ?_⟩ <;> assumption) | go_keep)
    (first | (go_at_call 19; refine (toEscapement_any _ _ _ _ _ _).mono ?_; rintro e w1 ⟨rfl, x1⟩; (try clear xc xf); obtain ⟨yc, yf, yl⟩ := x1.keeps; (first | have hn0 := Nat.lt_of_lt_of_le hn0 x1.size | have hn0 := Nat.lt_of_lt_of_le (lt_da W _) x1.size | have hn0 := Nat.lt_of_lt_of_le (lt_ad W _) x1.size | skip); (first | replace x0 := x0.trans x1 | replace x0 := (x0.alloc _).trans x1 | replace x0 := (x0.drew).trans x1 | replace x0 := (x0.drew.alloc _).trans x1 | replace x0 := (x0.alloc _).drew.trans x1 | replace x0 := ((x0.alloc _).alloc _).trans x1 | have x0 := x1); clear x1; obtain ⟨xc, xf, xs⟩ := x0.cells; have hm0 : w1.heap.size ≠ w.heap.size := (by omega); have hm1 : w1.heap.size ≠ w.heap.size + 1 := (by omega)) | (go_at_call 22; refine (toBeat_any _ _ _).mono ?_; rintro e w1 ⟨rfl, x1⟩; (try clear xc xf); obtain ⟨yc, yf, yl⟩ := x1.keeps; (first | have hn0 := Nat.lt_of_lt_of_le hn0 x1.size | have hn0 := Nat.lt_of_lt_of_le (lt_da W _) x1.size | have hn0 := Nat.lt_of_lt_of_le (lt_ad W _) x1.size | skip); (first | replace x0 := x0.trans x1 | replace x0 := (x0.alloc _).trans x1 | replace x0 := (x0.drew).trans x1 | replace x0 := (x0.drew.alloc _).trans x1 | replace x0 := (x0.alloc _).drew.trans x1 | replace x0 := ((x0.alloc _).alloc _).trans x1 | have x0 := x1); clear x1; obtain ⟨xc, xf, xs⟩ := x0.cells; have hm0 : w1.heap.size ≠ w.heap.size := (by omega); have hm1 : w1.heap.size ≠ w.heap.size + 1 := (by omega)) | (go_at_call 39; refine (specWheel_any z u i l m n k _).mono ?_; rintro e w1 ⟨rfl, x1⟩; (try clear xc xf); obtain ⟨yc, yf, yl⟩ := x1.keeps; (first | have hn0 := Nat.lt_of_lt_of_le hn0 x1.size | have hn0 := Nat.lt_of_lt_of_le (lt_da W _) x1.size | have hn0 := Nat.lt_of_lt_of_le (lt_ad W _) x1.size | skip); (first | replace x0 := x0.trans x1 | replace x0 := (x0.alloc _).trans x1 | replace x0 := (x0.drew).trans x1 | replace x0 := (x0.drew.alloc _).trans x1 | replace x0 := (x0.alloc _).drew.trans x1 | replace x0 := ((x0.alloc _).alloc _).trans x1 | have x0 := x1); clear x1; obtain ⟨xc, xf, xs⟩ := x0.cells; have hm0 : w1.heap.size ≠ w.heap.size := (by omega); have hm1 : w1.heap.size ≠ w.heap.size + 1 := (by omega)))
    all_goals (go_wp2_with fail; go_meet; refine ⟨_, rfl, rfl, ?_, ?_, ?_⟩)
    all_goals first | (simp [go_sem, *]; done) | (refine two0 _ _ _ _ ?_; simp [*]; done) | (refine two1 _ _ _ _ ?_; simp [*]; done) | (repeat (first | exact x0 | refine Ext.setCell ?_ (by simp; try omega) _ | refine Ext.alloc ?_ _ | refine Ext.drew ?_ | refine Ext.trans ?_ (by assumption)))
  case rest =>
  obtain ⟨g, rfl, rfl, x0, fg_0, fg_1⟩ := hcut
  obtain ⟨xc, xf, xs⟩ := x0.cells
  have f0_0 := (xc _ _ hl0).trans f0_0
  have f0_1 := (xc _ _ hl0).trans f0_1
  have f0_2 := (xc _ _ hl0).trans f0_2
  have f0_3 := (xc _ _ hl0).trans f0_3
  have f0_4 := (xc _ _ hl0).trans f0_4
  have f1_0 := (xc _ _ hl1).trans f1_0
  have f1_1 := (xc _ _ hl1).trans f1_1
  have hl0 := Nat.lt_of_lt_of_le hl0 x0.size
  have hk0 := Nat.ne_of_gt hl0
  have hl1 := Nat.lt_of_lt_of_le hl1 x0.size
  have hk1 := Nat.ne_of_gt hl1
  have hE := hE.trans x0
  clear xc xf xs x0
  rename World => W
  have hl_g : g < W.heap.size := World.block_lt_of_cell? _ _ fg_0
  have hk_g := Nat.ne_of_gt hl_g
  have x0 := Ext.refl W
  go_upto_region 2 with fail
  go_cut [7, 8] (fun s7 s8 wx => ∃ g : Nat, s7 = .pointer (some ⟨g, 0, none⟩) ∧ s8 = .int .i64 (wtC z u i l m n k) ∧ Ext W wx ∧ wx.cell? ⟨g, 0, none⟩ = some (.int .i64 (wtN z u i l m n k)) ∧ wx.cell? ⟨g, 1, none⟩ = some (.int .i64 (wtD z u i l m n k)))
  case first =>
    go_region_held3 (fun w' => w'.cell? ⟨w.heap.size, 0, none⟩ = some (.int .i64 z) ∧ w'.cell? ⟨w.heap.size, 1, none⟩ = some (.int .i64 u) ∧ w'.cell? ⟨w.heap.size, 2, none⟩ = some (.int .i64 i) ∧ w'.cell? ⟨w.heap.size, 3, none⟩ = some (.int .i64 l) ∧ w'.cell? ⟨w.heap.size, 4, none⟩ = some (.int .i64 m) ∧ w'.cell? ⟨w.heap.size + 1, 0, none⟩ = some (.int .i64 n) ∧ w'.cell? ⟨w.heap.size + 1, 1, none⟩ = some (.int .i64 k) ∧ w'.cell? ⟨g, 0, none⟩ = some (.int .i64 (wtN z u i l m n k)) ∧ w'.cell? ⟨g, 1, none⟩ = some (.int .i64 (wtD z u i l m n k)))
    (first | (refine ⟨?_, ?_, ?_, ?_, ?_, ?_, ?_, ?_, ?_⟩ <;> (refine (xc _ _ ?_).trans ?_ <;> assumption)) | (refine ⟨?_, ?_, ?_, ?_, ?_, ?_, ?_, ?_, ?_⟩ <;> assumption) | go_keep)
    (first | (go_at_call 19; refine (toEscapement_any _ _ _ _ _ _).mono ?_; rintro e w1 ⟨rfl, x1⟩; (try clear xc xf); obtain ⟨yc, yf, yl⟩ := x1.keeps; (first | have hn0 := Nat.lt_of_lt_of_le hn0 x1.size | have hn0 := Nat.lt_of_lt_of_le (lt_da W _) x1.size | have hn0 := Nat.lt_of_lt_of_le (lt_ad W _) x1.size | skip); (first | replace x0 := x0.trans x1 | replace x0 := (x0.alloc _).trans x1 | replace x0 := (x0.drew).trans x1 | replace x0 := (x0.drew.alloc _).trans x1 | replace x0 := (x0.alloc _).drew.trans x1 | replace x0 := ((x0.alloc _).alloc _).trans x1 | have x0 := x1); clear x1; obtain ⟨xc, xf, xs⟩ := x0.cells; have hm0 : w1.heap.size ≠ w.heap.size := (by omega); have hm1 : w1.heap.size ≠ w.heap.size + 1 := (by omega); have hm_g : w1.heap.size ≠ g := (by omega)) | (go_at_call 22; refine (toBeat_any _ _ _).mono ?_; rintro e w1 ⟨rfl, x1⟩; (try clear xc xf); obtain ⟨yc, yf, yl⟩ := x1.keeps; (first | have hn0 := Nat.lt_of_lt_of_le hn0 x1.size | have hn0 := Nat.lt_of_lt_of_le (lt_da W _) x1.size | have hn0 := Nat.lt_of_lt_of_le (lt_ad W _) x1.size | skip); (first | replace x0 := x0.trans x1 | replace x0 := (x0.alloc _).trans x1 | replace x0 := (x0.drew).trans x1 | replace x0 := (x0.drew.alloc _).trans x1 | replace x0 := (x0.alloc _).drew.trans x1 | replace x0 := ((x0.alloc _).alloc _).trans x1 | have x0 := x1); clear x1; obtain ⟨xc, xf, xs⟩ := x0.cells; have hm0 : w1.heap.size ≠ w.heap.size := (by omega); have hm1 : w1.heap.size ≠ w.heap.size + 1 := (by omega); have hm_g : w1.heap.size ≠ g := (by omega)) | (go_at_call 40; refine (implWheel_any z u i l m n k _).mono ?_; rintro e w1 ⟨rfl, x1⟩; (try clear xc xf); obtain ⟨yc, yf, yl⟩ := x1.keeps; (first | have hn0 := Nat.lt_of_lt_of_le hn0 x1.size | have hn0 := Nat.lt_of_lt_of_le (lt_da W _) x1.size | have hn0 := Nat.lt_of_lt_of_le (lt_ad W _) x1.size | skip); (first | replace x0 := x0.trans x1 | replace x0 := (x0.alloc _).trans x1 | replace x0 := (x0.drew).trans x1 | replace x0 := (x0.drew.alloc _).trans x1 | replace x0 := (x0.alloc _).drew.trans x1 | replace x0 := ((x0.alloc _).alloc _).trans x1 | have x0 := x1); clear x1; obtain ⟨xc, xf, xs⟩ := x0.cells; have hm0 : w1.heap.size ≠ w.heap.size := (by omega); have hm1 : w1.heap.size ≠ w.heap.size + 1 := (by omega); have hm_g : w1.heap.size ≠ g := (by omega)))
    all_goals (go_wp2_with fail; go_meet; refine ⟨_, rfl, rfl, ?_, ?_, ?_⟩)
    all_goals first | (simp [go_sem, *]; done) | (refine two0 _ _ _ _ ?_; simp [*]; done) | (refine two1 _ _ _ _ ?_; simp [*]; done) | (repeat (first | exact x0 | refine Ext.setCell ?_ (by simp; try omega) _ | refine Ext.alloc ?_ _ | refine Ext.drew ?_ | refine Ext.trans ?_ (by assumption)))
  case rest =>
  obtain ⟨gg, rfl, rfl, x0, fgg_0, fgg_1⟩ := hcut
  obtain ⟨xc, xf, xs⟩ := x0.cells
  have f0_0 := (xc _ _ hl0).trans f0_0
  have f0_1 := (xc _ _ hl0).trans f0_1
  have f0_2 := (xc _ _ hl0).trans f0_2
  have f0_3 := (xc _ _ hl0).trans f0_3
  have f0_4 := (xc _ _ hl0).trans f0_4
  have f1_0 := (xc _ _ hl1).trans f1_0
  have f1_1 := (xc _ _ hl1).trans f1_1
  have hl0 := Nat.lt_of_lt_of_le hl0 x0.size
  have hk0 := Nat.ne_of_gt hl0
  have hl1 := Nat.lt_of_lt_of_le hl1 x0.size
  have hk1 := Nat.ne_of_gt hl1
  have fg_0 := (xc _ _ hl_g).trans fg_0
  have fg_1 := (xc _ _ hl_g).trans fg_1
  have hl_g := Nat.lt_of_lt_of_le hl_g x0.size
  have hk_g := Nat.ne_of_gt hl_g
  have hE := hE.trans x0
  clear xc xf xs x0
  rename World => W
  have hl_gg : gg < W.heap.size := World.block_lt_of_cell? _ _ fgg_0
  have hk_gg := Nat.ne_of_gt hl_gg
  have x0 := Ext.refl W
  go_wp2_with (go_at_call 41; refine (eqRatio_same _ _ _).mono ?_; rintro e w1 ⟨rfl, x1⟩; (try clear xc xf xs); (first | replace x0 := x0.trans x1 | replace x0 := (x0.alloc _).trans x1 | replace x0 := (x0.drew).trans x1 | replace x0 := (x0.drew.alloc _).trans x1 | replace x0 := (x0.alloc _).drew.trans x1 | replace x0 := ((x0.alloc _).alloc _).trans x1 | have x0 := x1); clear x1; obtain ⟨xc, xf, xs⟩ := x0.cells)
  go_ret
  exact ⟨rfl, hE.trans x0⟩

end Go.Proofs.Ytehebhphlaghfaa
