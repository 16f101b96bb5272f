/-
  The balance point of a rate, and the walk of its law.
-/
import Derived.Test.YtiodlbgfgeimoaaMakeR
import Derived.Test.YtiodlbgfgeimoaaRate
import Derived.Deep.DeepCutAuto
namespace Go.Proofs.Ytiodlbgfgeimoaa
open Go.RowKit
set_option linter.unusedSimpArgs false
set_option linter.unusedVariables false

def bpN (b l c m : Int) : Int := if vRate b l c m = true then mkN (2 * c * m - l) (2 * c) else 0
def bpD (b l c m : Int) : Int := if vRate b l c m = true then mkD (2 * c * m - l) (2 * c) else 0
def bpC (b l c m : Int) : Int := if vRate b l c m = true then mkC (2 * c * m - l) (2 * c) else 1

set_option maxHeartbeats 2000000 in
theorem implBalance_any (b l c m : Int) (w : World) :
    Calls Try.prog 31 #[.agg #[.int .i64 b, .int .i64 l, .int .i64 c, .int .i64 m]] w fun e w' => e = .returned (.tuple #[.agg #[.int .i64 (bpN b l c m), .int .i64 (bpD b l c m)], .int .i64 (bpC b l c m)]) ∧ Ext w w' := by
  cases h1 : vRate b l c m
  · skip
    have e1 := Lib.hid (show 0 = bpN b l c m by simp [bpN, h1])
    have e2 := Lib.hid (show 0 = bpD b l c m by simp [bpD, h1])
    have e3 := Lib.hid (show 1 = bpC b l c m by simp [bpC, h1])
    go_enter Try.func31, Try.ntmps31
    go_wp2_with (first | (go_at_call 20; refine (implValidRate_any b l c m _).mono ?_; rintro e w1 ⟨rfl, x1⟩; (try clear xc xf xs); (first | replace x0 := x0.trans x1 | replace x0 := (x0.alloc _).trans x1 | replace x0 := (x0.drew).trans x1 | replace x0 := (x0.drew.alloc _).trans x1 | replace x0 := (x0.alloc _).drew.trans x1 | replace x0 := ((x0.alloc _).alloc _).trans x1 | have x0 := x1); clear x1; obtain ⟨xc, xf, xs⟩ := x0.cells))
    exact bodyPost_ret (v := .tuple #[.agg #[.int .i64 (0), .int .i64 (0)], .int .i64 (1)]) (by simp [results, Try.results31, go_sem, *]) rfl ⟨rt2 e1.out e2.out e3.out, by (repeat (first | refine Ext.setCell ?_ (by simp; try omega) _ | refine Ext.alloc ?_ _)); exact (((Ext.refl _).alloc _).alloc _).trans x0⟩
  · skip
    obtain ⟨hb, hl, hc, hm⟩ := vRate_iff.1 h1
    have k1 : -1200000 ≤ 2 * c * m ∧ 2 * c * m ≤ 1200000 := by have := mul_abs (x := 2 * c) (y := m) (X := 2000) (Y := 600) (by omega) (by omega); omega
    have e1 := Lib.hid (show mkN (2 * c * m - l) (2 * c) = bpN b l c m by simp [bpN, h1])
    have e2 := Lib.hid (show mkD (2 * c * m - l) (2 * c) = bpD b l c m by simp [bpD, h1])
    have e3 := Lib.hid (show mkC (2 * c * m - l) (2 * c) = bpC b l c m by simp [bpC, h1])
    go_enter Try.func31, Try.ntmps31
    go_wp2_with (first | (go_at_call 20; refine (implValidRate_any b l c m _).mono ?_; rintro e w1 ⟨rfl, x1⟩; (try clear xc xf xs); (first | replace x0 := x0.trans x1 | replace x0 := (x0.alloc _).trans x1 | replace x0 := (x0.drew).trans x1 | replace x0 := (x0.drew.alloc _).trans x1 | replace x0 := (x0.alloc _).drew.trans x1 | replace x0 := ((x0.alloc _).alloc _).trans x1 | have x0 := x1); clear x1; obtain ⟨xc, xf, xs⟩ := x0.cells) | (go_at_call 71; refine (makeRatio_any (2 * c * m - l) (2 * c) _ (by omega) (by omega)).mono ?_; rintro e w1 ⟨rfl, x1⟩; (try clear xc xf xs); (first | replace x0 := x0.trans x1 | replace x0 := (x0.alloc _).trans x1 | replace x0 := (x0.drew).trans x1 | replace x0 := (x0.drew.alloc _).trans x1 | replace x0 := (x0.alloc _).drew.trans x1 | replace x0 := ((x0.alloc _).alloc _).trans x1 | have x0 := x1); clear x1; obtain ⟨xc, xf, xs⟩ := x0.cells))
    exact bodyPost_ret (v := .tuple #[.agg #[.int .i64 (mkN (2 * c * m - l) (2 * c)), .int .i64 (mkD (2 * c * m - l) (2 * c))], .int .i64 (mkC (2 * c * m - l) (2 * c))]) (by simp [results, Try.results31, go_sem, *]) rfl ⟨rt2 e1.out e2.out e3.out, by (repeat (first | refine Ext.setCell ?_ (by simp; try omega) _ | refine Ext.alloc ?_ _)); exact (((Ext.refl _).alloc _).alloc _).trans x0⟩

set_option maxHeartbeats 2000000 in
theorem specBalance_any (b l c m : Int) (w : World) :
    Calls Try.prog 30 #[.agg #[.int .i64 b, .int .i64 l, .int .i64 c, .int .i64 m]] w fun e w' => e = .returned (.tuple #[.agg #[.int .i64 (bpN b l c m), .int .i64 (bpD b l c m)], .int .i64 (bpC b l c m)]) ∧ Ext w w' := by
  cases h1 : vRate b l c m
  · skip
    have e1 := Lib.hid (show 0 = bpN b l c m by simp [bpN, h1])
    have e2 := Lib.hid (show 0 = bpD b l c m by simp [bpD, h1])
    have e3 := Lib.hid (show 1 = bpC b l c m by simp [bpC, h1])
    go_enter Try.func30, Try.ntmps30
    go_wp2_with (first | (go_at_call 60; refine (l12Ok_any b l c m _).mono ?_; rintro e w1 ⟨rfl, x1⟩; (try clear xc xf xs); (first | replace x0 := x0.trans x1 | replace x0 := (x0.alloc _).trans x1 | replace x0 := (x0.drew).trans x1 | replace x0 := (x0.drew.alloc _).trans x1 | replace x0 := (x0.alloc _).drew.trans x1 | replace x0 := ((x0.alloc _).alloc _).trans x1 | have x0 := x1); clear x1; obtain ⟨xc, xf, xs⟩ := x0.cells))
    exact bodyPost_ret (v := .tuple #[.agg #[.int .i64 (0), .int .i64 (0)], .int .i64 (1)]) (by simp [results, Try.results30, go_sem, *]) rfl ⟨rt2 e1.out e2.out e3.out, by (repeat (first | refine Ext.setCell ?_ (by simp; try omega) _ | refine Ext.alloc ?_ _)); exact (((Ext.refl _).alloc _).alloc _).trans x0⟩
  · skip
    obtain ⟨hb, hl, hc, hm⟩ := vRate_iff.1 h1
    have k1 : -1200000 ≤ 2 * c * m ∧ 2 * c * m ≤ 1200000 := by have := mul_abs (x := 2 * c) (y := m) (X := 2000) (Y := 600) (by omega) (by omega); omega
    by_cases h0 : c = 0
    · subst h0
      have e1 := Lib.hid (show 0 = bpN b l 0 m by simp [bpN, h1, mkN, mkD, mkC])
      have e2 := Lib.hid (show 0 = bpD b l 0 m by simp [bpD, h1, mkN, mkD, mkC])
      have e3 := Lib.hid (show 6 = bpC b l 0 m by simp [bpC, h1, mkN, mkD, mkC])
      go_enter Try.func30, Try.ntmps30
      go_wp2_with (first | (go_at_call 60; refine (l12Ok_any b l 0 m _).mono ?_; rintro e w1 ⟨rfl, x1⟩; (try clear xc xf xs); (first | replace x0 := x0.trans x1 | replace x0 := (x0.alloc _).trans x1 | replace x0 := (x0.drew).trans x1 | replace x0 := (x0.drew.alloc _).trans x1 | replace x0 := (x0.alloc _).drew.trans x1 | replace x0 := ((x0.alloc _).alloc _).trans x1 | have x0 := x1); clear x1; obtain ⟨xc, xf, xs⟩ := x0.cells))
      exact bodyPost_ret (v := .tuple #[.agg #[.int .i64 (0), .int .i64 (0)], .int .i64 (6)]) (by simp [results, Try.results30, go_sem, *]) rfl ⟨rt2 e1.out e2.out e3.out, by (repeat (first | refine Ext.setCell ?_ (by simp; try omega) _ | refine Ext.alloc ?_ _)); exact (((Ext.refl _).alloc _).alloc _).trans x0⟩
    · have f0 : (c == 0) = false := by simpa using h0
      have e1 := Lib.hid (show mkN (2 * c * m - l) (2 * c) = bpN b l c m by simp [bpN, h1])
      have e2 := Lib.hid (show mkD (2 * c * m - l) (2 * c) = bpD b l c m by simp [bpD, h1])
      have e3 := Lib.hid (show mkC (2 * c * m - l) (2 * c) = bpC b l c m by simp [bpC, h1])
      go_enter Try.func30, Try.ntmps30
      go_wp2_with (first | (go_at_call 60; refine (l12Ok_any b l c m _).mono ?_; rintro e w1 ⟨rfl, x1⟩; (try clear xc xf xs); (first | replace x0 := x0.trans x1 | replace x0 := (x0.alloc _).trans x1 | replace x0 := (x0.drew).trans x1 | replace x0 := (x0.drew.alloc _).trans x1 | replace x0 := (x0.alloc _).drew.trans x1 | replace x0 := ((x0.alloc _).alloc _).trans x1 | have x0 := x1); clear x1; obtain ⟨xc, xf, xs⟩ := x0.cells) | (go_at_call 70; refine (l02Make_any (2 * c * m - l) (2 * c) _ (by omega) (by omega) (by omega)).mono ?_; rintro e w1 ⟨rfl, x1⟩; (try clear xc xf xs); (first | replace x0 := x0.trans x1 | replace x0 := (x0.alloc _).trans x1 | replace x0 := (x0.drew).trans x1 | replace x0 := (x0.drew.alloc _).trans x1 | replace x0 := (x0.alloc _).drew.trans x1 | replace x0 := ((x0.alloc _).alloc _).trans x1 | have x0 := x1); clear x1; obtain ⟨xc, xf, xs⟩ := x0.cells) | (go_at_call 69; refine (l02Code_any (2 * c * m - l) (2 * c) _ (by omega)).mono ?_; rintro e w1 ⟨rfl, x1⟩; (try clear xc xf xs); (first | replace x0 := x0.trans x1 | replace x0 := (x0.alloc _).trans x1 | replace x0 := (x0.drew).trans x1 | replace x0 := (x0.drew.alloc _).trans x1 | replace x0 := (x0.alloc _).drew.trans x1 | replace x0 := ((x0.alloc _).alloc _).trans x1 | have x0 := x1); clear x1; obtain ⟨xc, xf, xs⟩ := x0.cells))
      exact bodyPost_ret (v := .tuple #[.agg #[.int .i64 (mkN (2 * c * m - l) (2 * c)), .int .i64 (mkD (2 * c * m - l) (2 * c))], .int .i64 (mkC (2 * c * m - l) (2 * c))]) (by simp [results, Try.results30, go_sem, *]) rfl ⟨rt2 e1.out e2.out e3.out, by (repeat (first | refine Ext.setCell ?_ (by simp; try omega) _ | refine Ext.alloc ?_ _)); exact (((Ext.refl _).alloc _).alloc _).trans x0⟩

set_option maxHeartbeats 4000000 in
theorem balance_walk (b l c m : Int) (w : World) (b0 : -9223372036854775808 ≤ b ∧ b ≤ 9223372036854775807) (b1 : -9223372036854775808 ≤ l ∧ l ≤ 9223372036854775807) (b2 : -9223372036854775808 ≤ c ∧ c ≤ 9223372036854775807) (b3 : -9223372036854775808 ≤ m ∧ m ≤ 9223372036854775807) :
    Calls Try.prog 7 #[.agg #[.int .i64 b, .int .i64 l, .int .i64 c, .int .i64 m]] w fun e w' => e = .returned (.bool true) ∧ Ext w w' := by
  clear b0 b1 b2 b3
  go_enter Try.func7, Try.ntmps7
  go_upto_region 1 with fail
  generalize hW : (w.alloc (Obj.cells #[.int .i64 b, .int .i64 l, .int .i64 c, .int .i64 m] 23)) = W
  have hE : Ext w W := by rw [← hW]; exact ((Ext.refl _).alloc _)
  have hl0 : w.heap.size < W.heap.size := by rw [← hW]; simp; try omega
  have f0_0 : W.cell? ⟨w.heap.size, 0, none⟩ = some (.int .i64 b) := by rw [← hW]; simp
  have f0_1 : W.cell? ⟨w.heap.size, 1, none⟩ = some (.int .i64 l) := by rw [← hW]; simp
  have f0_2 : W.cell? ⟨w.heap.size, 2, none⟩ = some (.int .i64 c) := by rw [← hW]; simp
  have f0_3 : W.cell? ⟨w.heap.size, 3, none⟩ = some (.int .i64 m) := by rw [← hW]; simp
  clear hW
  have hk0 := Nat.ne_of_gt hl0
  have x0 := Ext.refl W
  go_cut [3, 4] (fun s3 s4 wx => ∃ g : Nat, s3 = .pointer (some ⟨g, 0, none⟩) ∧ s4 = .int .i64 (bpC b l c m) ∧ Ext W wx ∧ wx.cell? ⟨g, 0, none⟩ = some (.int .i64 (bpN b l c m)) ∧ wx.cell? ⟨g, 1, none⟩ = some (.int .i64 (bpD b l c m)))
  case first =>
    go_wp2_with (first | (go_at_call 19; refine (toRate_any _ _ _ _ _).mono ?_; rintro e w1 ⟨rfl, x1⟩; (try clear xc xf); obtain ⟨yc, yf, yl⟩ := x1.keeps; (first | have hn0 := Nat.lt_of_lt_of_le hn0 x1.size | have hn0 := Nat.lt_of_lt_of_le (lt_da W _) x1.size | have hn0 := Nat.lt_of_lt_of_le (lt_ad W _) x1.size | skip); (first | replace x0 := x0.trans x1 | replace x0 := (x0.alloc _).trans x1 | replace x0 := (x0.drew).trans x1 | replace x0 := (x0.drew.alloc _).trans x1 | replace x0 := (x0.alloc _).drew.trans x1 | replace x0 := ((x0.alloc _).alloc _).trans x1 | have x0 := x1); clear x1; obtain ⟨xc, xf, xs⟩ := x0.cells; have hm0 : w1.heap.size ≠ w.heap.size := (by omega); have hp0 : w.heap.size < w1.heap.size := (by omega)) | (go_at_call 30; refine (specBalance_any b l c m _).mono ?_; rintro e w1 ⟨rfl, x1⟩; (try clear xc xf); obtain ⟨yc, yf, yl⟩ := x1.keeps; (first | have hn0 := Nat.lt_of_lt_of_le hn0 x1.size | have hn0 := Nat.lt_of_lt_of_le (lt_da W _) x1.size | have hn0 := Nat.lt_of_lt_of_le (lt_ad W _) x1.size | skip); (first | replace x0 := x0.trans x1 | replace x0 := (x0.alloc _).trans x1 | replace x0 := (x0.drew).trans x1 | replace x0 := (x0.drew.alloc _).trans x1 | replace x0 := (x0.alloc _).drew.trans x1 | replace x0 := ((x0.alloc _).alloc _).trans x1 | have x0 := x1); clear x1; obtain ⟨xc, xf, xs⟩ := x0.cells; have hm0 : w1.heap.size ≠ w.heap.size := (by omega); have hp0 : w.heap.size < w1.heap.size := (by omega)))
    all_goals (go_wp2_with fail; go_meet; refine ⟨_, rfl, rfl, ?_, ?_, ?_⟩)
    all_goals first | (simp [go_sem, *]; done) | (refine two0 _ _ _ _ ?_; simp [*]; done) | (refine two1 _ _ _ _ ?_; simp [*]; done) | (repeat (first | exact x0 | refine Ext.setCell ?_ (by simp; try omega) _ | refine Ext.alloc ?_ _ | refine Ext.drew ?_ | refine Ext.trans ?_ (by assumption)))
  case rest =>
  obtain ⟨g, rfl, rfl, x0, fg_0, fg_1⟩ := hcut
  obtain ⟨xc, xf, xs⟩ := x0.cells
  have f0_0 := (xc _ _ hl0).trans f0_0
  have f0_1 := (xc _ _ hl0).trans f0_1
  have f0_2 := (xc _ _ hl0).trans f0_2
  have f0_3 := (xc _ _ hl0).trans f0_3
  have hl0 := Nat.lt_of_lt_of_le hl0 x0.size
  have hk0 := Nat.ne_of_gt hl0
  have hE := hE.trans x0
  clear xc xf xs x0
  rename World => W
  have hl_g : g < W.heap.size := World.block_lt_of_cell? _ _ fg_0
  have hk_g := Nat.ne_of_gt hl_g
  have x0 := Ext.refl W
  go_upto_region 2 with fail
  go_cut [5, 6] (fun s5 s6 wx => ∃ g : Nat, s5 = .pointer (some ⟨g, 0, none⟩) ∧ s6 = .int .i64 (bpC b l c m) ∧ Ext W wx ∧ wx.cell? ⟨g, 0, none⟩ = some (.int .i64 (bpN b l c m)) ∧ wx.cell? ⟨g, 1, none⟩ = some (.int .i64 (bpD b l c m)))
  case first =>
    go_wp2_with (first | (go_at_call 19; refine (toRate_any _ _ _ _ _).mono ?_; rintro e w1 ⟨rfl, x1⟩; (try clear xc xf); obtain ⟨yc, yf, yl⟩ := x1.keeps; (first | have hn0 := Nat.lt_of_lt_of_le hn0 x1.size | have hn0 := Nat.lt_of_lt_of_le (lt_da W _) x1.size | have hn0 := Nat.lt_of_lt_of_le (lt_ad W _) x1.size | skip); (first | replace x0 := x0.trans x1 | replace x0 := (x0.alloc _).trans x1 | replace x0 := (x0.drew).trans x1 | replace x0 := (x0.drew.alloc _).trans x1 | replace x0 := (x0.alloc _).drew.trans x1 | replace x0 := ((x0.alloc _).alloc _).trans x1 | have x0 := x1); clear x1; obtain ⟨xc, xf, xs⟩ := x0.cells; have hm0 : w1.heap.size ≠ w.heap.size := (by omega); have hp0 : w.heap.size < w1.heap.size := (by omega); have hm_g : w1.heap.size ≠ g := (by omega)) | (go_at_call 31; refine (implBalance_any b l c m _).mono ?_; rintro e w1 ⟨rfl, x1⟩; (try clear xc xf); obtain ⟨yc, yf, yl⟩ := x1.keeps; (first | have hn0 := Nat.lt_of_lt_of_le hn0 x1.size | have hn0 := Nat.lt_of_lt_of_le (lt_da W _) x1.size | have hn0 := Nat.lt_of_lt_of_le (lt_ad W _) x1.size | skip); (first | replace x0 := x0.trans x1 | replace x0 := (x0.alloc _).trans x1 | replace x0 := (x0.drew).trans x1 | replace x0 := (x0.drew.alloc _).trans x1 | replace x0 := (x0.alloc _).drew.trans x1 | replace x0 := ((x0.alloc _).alloc _).trans x1 | have x0 := x1); clear x1; obtain ⟨xc, xf, xs⟩ := x0.cells; have hm0 : w1.heap.size ≠ w.heap.size := (by omega); have hp0 : w.heap.size < w1.heap.size := (by omega); have hm_g : w1.heap.size ≠ g := (by omega)))
    all_goals (go_wp2_with fail; go_meet; refine ⟨_, rfl, rfl, ?_, ?_, ?_⟩)
    all_goals first | (simp [go_sem, *]; done) | (refine two0 _ _ _ _ ?_; simp [*]; done) | (refine two1 _ _ _ _ ?_; simp [*]; done) | (repeat (first | exact x0 | refine Ext.setCell ?_ (by simp; try omega) _ | refine Ext.alloc ?_ _ | refine Ext.drew ?_ | refine Ext.trans ?_ (by assumption)))
  case rest =>
  obtain ⟨gg, rfl, rfl, x0, fgg_0, fgg_1⟩ := hcut
  obtain ⟨xc, xf, xs⟩ := x0.cells
  have f0_0 := (xc _ _ hl0).trans f0_0
  have f0_1 := (xc _ _ hl0).trans f0_1
  have f0_2 := (xc _ _ hl0).trans f0_2
  have f0_3 := (xc _ _ hl0).trans f0_3
  have hl0 := Nat.lt_of_lt_of_le hl0 x0.size
  have hk0 := Nat.ne_of_gt hl0
  have fg_0 := (xc _ _ hl_g).trans fg_0
  have fg_1 := (xc _ _ hl_g).trans fg_1
  have hl_g := Nat.lt_of_lt_of_le hl_g x0.size
  have hk_g := Nat.ne_of_gt hl_g
  have hE := hE.trans x0
  clear xc xf xs x0
  rename World => W
  have hl_gg : gg < W.heap.size := World.block_lt_of_cell? _ _ fgg_0
  have hk_gg := Nat.ne_of_gt hl_gg
  have x0 := Ext.refl W
  go_wp2_with (go_at_call 32; refine (eqRatio_same _ _ _).mono ?_; rintro e w1 ⟨rfl, x1⟩; (try clear xc xf xs); (first | replace x0 := x0.trans x1 | replace x0 := (x0.alloc _).trans x1 | replace x0 := (x0.drew).trans x1 | replace x0 := (x0.drew.alloc _).trans x1 | replace x0 := (x0.alloc _).drew.trans x1 | replace x0 := ((x0.alloc _).alloc _).trans x1 | have x0 := x1); clear x1; obtain ⟨xc, xf, xs⟩ := x0.cells)
  go_ret
  exact ⟨rfl, hE.trans x0⟩

end Go.Proofs.Ytiodlbgfgeimoaa
