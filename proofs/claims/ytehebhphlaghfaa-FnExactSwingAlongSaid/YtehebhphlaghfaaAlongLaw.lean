/-
  The walk of the law of the swings along a row of torques.
-/
import Derived.Test.YtehebhphlaghfaaAlong
import Derived.Test.YtehebhphlaghfaaHeld
namespace Go.Proofs.Ytehebhphlaghfaa
open Go.RowKit
set_option linter.unusedSimpArgs false
set_option linter.unusedVariables false

theorem own_sz {W cur w1 : World} {v : Value} {zs : List Int} (h : IntsOf w1 cur.heap.size v zs) (x : Ext W cur) : W.heap.size ≤ cur.heap.size := x.size

set_option maxRecDepth 100000 in
set_option maxHeartbeats 16000000 in
theorem swingAlong_walk (z u i l m : Int) (a : Option Addr) (N c : Nat) (qs : List Int) (n k : Int) (w : World) (hr : Row1 w a qs) (hn : qs.length = N) (hm : N ≤ 9223372036854775807) :
    Calls Try.prog 14 #[.agg #[.int .i64 z, .int .i64 u, .int .i64 i, .int .i64 l, .int .i64 m], .slice a N c, .agg #[.int .i64 n, .int .i64 k]] w fun e w' => e = .returned (.bool true) ∧ Ext w w' := by
  by_cases hs : N ≤ 1048576
  · have t0 : ¬ (1048576 : Int) < (N : Int) := by omega
    go_enter Try.func14, Try.ntmps14
    go_wp2_with fail
    generalize hW : ((w.alloc (Obj.cells #[.int .i64 z, .int .i64 u, .int .i64 i, .int .i64 l, .int .i64 m] 23)).alloc (Obj.cells #[.int .i64 n, .int .i64 k] 29)) = W
    have hE : Ext w W := by rw [← hW]; exact (((Ext.refl _).alloc _).alloc _)
    have hl0 : w.heap.size < W.heap.size := by rw [← hW]; simp; try omega
    have hl1 : w.heap.size + 1 < W.heap.size := by rw [← hW]; simp; try omega
    have f0_0 : W.cell? ⟨w.heap.size, 0, none⟩ = some (.int .i64 z) := by rw [← hW]; simp
    have f0_1 : W.cell? ⟨w.heap.size, 1, none⟩ = some (.int .i64 u) := by rw [← hW]; simp
    have f0_2 : W.cell? ⟨w.heap.size, 2, none⟩ = some (.int .i64 i) := by rw [← hW]; simp
    have f0_3 : W.cell? ⟨w.heap.size, 3, none⟩ = some (.int .i64 l) := by rw [← hW]; simp
    have f0_4 : W.cell? ⟨w.heap.size, 4, none⟩ = some (.int .i64 m) := by rw [← hW]; simp
    have f1_0 : W.cell? ⟨w.heap.size + 1, 0, none⟩ = some (.int .i64 n) := by rw [← hW]; simp
    have f1_1 : W.cell? ⟨w.heap.size + 1, 1, none⟩ = some (.int .i64 k) := by rw [← hW]; simp
    clear hW
    have x0 := Ext.refl W
    have hrW := hr.ext hE
    go_cut [7, 8, 9] (fun s7 s8 s9 wx => ∃ (g : Nat) (v : Value), s7 = .pointer (some ⟨g, 0, none⟩) ∧ s8 = v ∧ s9 = .int .i64 (alC z u i l m qs n k) ∧ Ext W wx ∧ W.heap.size ≤ g ∧ wx.cell? ⟨g, 0, none⟩ = some (.int .i64 (alE z u i l m qs n k)) ∧ wx.cell? ⟨g, 1, none⟩ = some (.int .i64 (alK z u i l m qs n k)) ∧ IntsOf wx W.heap.size v (alM z u i l m qs n k) ∧ some g ≠ v.ownBlock)
    case first =>
      have hk_hl0 := Nat.ne_of_gt hl0
      have hk_hl1 := Nat.ne_of_gt hl1
      go_region_held3 (fun w' => w'.cell? ⟨w.heap.size, 0, none⟩ = some (.int .i64 z) ∧ w'.cell? ⟨w.heap.size, 1, none⟩ = some (.int .i64 u) ∧ w'.cell? ⟨w.heap.size, 2, none⟩ = some (.int .i64 i) ∧ w'.cell? ⟨w.heap.size, 3, none⟩ = some (.int .i64 l) ∧ w'.cell? ⟨w.heap.size, 4, none⟩ = some (.int .i64 m) ∧ w'.cell? ⟨w.heap.size + 1, 0, none⟩ = some (.int .i64 n) ∧ w'.cell? ⟨w.heap.size + 1, 1, none⟩ = some (.int .i64 k))
        (first | (refine ⟨?_, ?_, ?_, ?_, ?_, ?_, ?_⟩ <;> (refine keep_ext (W := W) ?_ (by assumption) (by assumption) <;> (repeat (first | exact x0 | refine Ext.setCell ?_ (by simp; try omega) _ | refine Ext.alloc ?_ _ | refine Ext.drew ?_)))))
        (first | (go_at_call 19; refine (toEscapement_any _ _ _ _ _ _).mono ?_; rintro e w1 ⟨rfl, x1⟩; (try (first | replace hv := hv.ext x1 | replace hv := (hv.ext ((Ext.refl _).alloc _)).ext x1 | replace hv := (hv.ext ((Ext.refl _).drew)).ext x1 | replace hv := (hv.ext (((Ext.refl _).alloc _).drew)).ext x1)); (try clear xc xf); (try clear d0 d1 e0 e1 hd); (first | have nb := NB.new x1 | have nb := NB.newd x1 | replace nb := nb.ext x1 | skip); (try (have nb2 := nb; obtain ⟨d0, d1, e0, e1, hd⟩ := nb2)); (first | replace x0 := x0.trans x1 | replace x0 := (x0.alloc _).trans x1 | replace x0 := (x0.drew).trans x1 | replace x0 := (x0.drew.alloc _).trans x1 | replace x0 := (x0.alloc _).drew.trans x1 | replace x0 := ((x0.alloc _).alloc _).trans x1 | have x0 := x1); clear x1; obtain ⟨xc, xf, xs⟩ := x0.cells) | (go_at_call 22; refine (toBeat_any _ _ _).mono ?_; rintro e w1 ⟨rfl, x1⟩; (try (first | replace hv := hv.ext x1 | replace hv := (hv.ext ((Ext.refl _).alloc _)).ext x1 | replace hv := (hv.ext ((Ext.refl _).drew)).ext x1 | replace hv := (hv.ext (((Ext.refl _).alloc _).drew)).ext x1)); (try clear xc xf); (try clear d0 d1 e0 e1 hd); (first | have nb := NB.new x1 | have nb := NB.newd x1 | replace nb := nb.ext x1 | skip); (try (have nb2 := nb; obtain ⟨d0, d1, e0, e1, hd⟩ := nb2)); (first | replace x0 := x0.trans x1 | replace x0 := (x0.alloc _).trans x1 | replace x0 := (x0.drew).trans x1 | replace x0 := (x0.drew.alloc _).trans x1 | replace x0 := (x0.alloc _).drew.trans x1 | replace x0 := ((x0.alloc _).alloc _).trans x1 | have x0 := x1); clear x1; obtain ⟨xc, xf, xs⟩ := x0.cells) | (go_at_call 48; refine (toInt64S_any _ _ _ qs _ (hrW.ext (by first | exact x0 | exact x0.drew | exact x0.alloc _ | exact (x0.alloc _).drew | exact x0.drew.alloc _ | exact x0.drewN _ | exact x0.drew.drew)) hn hs).mono ?_; rintro e w1 ⟨rfl, hv, x1⟩; (try simp only [World.size_alloc] at hv); (try clear xc xf); (try clear d0 d1 e0 e1 hd); (first | have nb := NB.new x1 | have nb := NB.newd x1 | replace nb := nb.ext x1 | skip); (try (have nb2 := nb; obtain ⟨d0, d1, e0, e1, hd⟩ := nb2)); (first | replace x0 := x0.trans x1 | replace x0 := (x0.alloc _).trans x1 | replace x0 := (x0.drew).trans x1 | replace x0 := (x0.drew.alloc _).trans x1 | replace x0 := (x0.alloc _).drew.trans x1 | replace x0 := ((x0.alloc _).alloc _).trans x1 | have x0 := x1); clear x1; obtain ⟨xc, xf, xs⟩ := x0.cells) | (go_at_call 34; refine (specSwingAlong_any z u i l m n k _ _ _ qs _ (by first | exact hv.row | exact (hv.ext ((Ext.refl _).alloc _)).row | exact (hv.ext ((Ext.refl _).drew)).row | exact (hv.ext (((Ext.refl _).alloc _).drew)).row) hn hs).mono ?_; rintro e w1 ⟨v, rfl, hrow, x1⟩; have hsz := own_sz hrow (by first | exact x0 | exact x0.drew | exact x0.alloc _ | exact (x0.alloc _).drew | exact x0.drew.alloc _ | exact x0.drewN _ | exact x0.drew.drew); (try (have hgb := nb.lt)); (try clear xc xf); (try clear d0 d1 e0 e1 hd); (first | have nb := NB.new x1 | have nb := NB.newd x1 | replace nb := nb.ext x1 | skip); (try (have nb2 := nb; obtain ⟨d0, d1, e0, e1, hd⟩ := nb2)); (first | replace x0 := x0.trans x1 | replace x0 := (x0.alloc _).trans x1 | replace x0 := (x0.drew).trans x1 | replace x0 := (x0.drew.alloc _).trans x1 | replace x0 := (x0.alloc _).drew.trans x1 | replace x0 := ((x0.alloc _).alloc _).trans x1 | have x0 := x1); clear x1; obtain ⟨xc, xf, xs⟩ := x0.cells))
      all_goals (go_wp2_with fail; go_meet; refine ⟨_, _, rfl, rfl, (by first | rfl | (simp [*]; done)), ?_, ?_, ?_, ?_, ?_, ?_⟩)
      all_goals first | (simp [go_sem, *]; done) | (refine two0 _ _ _ _ ?_; simp [*]; done) | (refine two1 _ _ _ _ ?_; simp [*]; done) | exact own_base hrow hsz | exact own_base (hrow.ext ((Ext.refl _).alloc _)) hsz | exact own_base ((hrow.other (by simp [*]) _).other (by simp [*]) _) hsz | exact off_row' hrow (by simp) | exact off_row hrow (by simp [*]) | (have := x0.size; simp at this; simp; omega) | (repeat (first | exact x0 | refine Ext.setCell ?_ (by simp; try omega) _ | refine Ext.alloc ?_ _ | refine Ext.drew ?_ | refine Ext.trans ?_ (by assumption)))
    case rest =>
    obtain ⟨g7, vw, rfl, rfl, rfl, x0, hg7, p7_0, p7_1, hw, hne7⟩ := hcut
    replace f0_0 := (x0.cells.1 _ _ hl0).trans f0_0
    replace f0_1 := (x0.cells.1 _ _ hl0).trans f0_1
    replace f0_2 := (x0.cells.1 _ _ hl0).trans f0_2
    replace f0_3 := (x0.cells.1 _ _ hl0).trans f0_3
    replace f0_4 := (x0.cells.1 _ _ hl0).trans f0_4
    replace f1_0 := (x0.cells.1 _ _ hl1).trans f1_0
    replace f1_1 := (x0.cells.1 _ _ hl1).trans f1_1
    replace hl0 := Nat.lt_of_lt_of_le hl0 x0.size
    replace hl1 := Nat.lt_of_lt_of_le hl1 x0.size
    replace hrW := hrW.ext x0
    replace hE := hE.trans x0
    (try clear xc xf xs)
    clear x0
    rename World => W
    have x0 := Ext.refl W
    clear hg7 hne7
    obtain ⟨aw, cw, rfl⟩ := hw.shape
    have hl7 : g7 < W.heap.size := World.block_lt_of_cell? _ _ p7_0
    have hL : (alM z u i l m qs n k).length ≤ 1048576 := by have := alM_len (z := z) (u := u) (i := i) (l := l) (m := m) (n := n) (k := k) (qs := qs); omega
    go_upto_region 5 with (go_at_call 48; refine (toInt64S_any _ _ _ qs _ hrW hn hs).mono ?_; rintro e w1 ⟨rfl, hx, x0⟩)
    have hpx0 := off_row hx hl0
    have hpx1 := off_row hx hl1
    have hpx7 := off_row hx hl7
    have hpxw := apart hw hx (Nat.le_refl _)
    have hgx := hE.size
    replace f0_0 := (x0.cells.1 _ _ hl0).trans f0_0
    replace f0_1 := (x0.cells.1 _ _ hl0).trans f0_1
    replace f0_2 := (x0.cells.1 _ _ hl0).trans f0_2
    replace f0_3 := (x0.cells.1 _ _ hl0).trans f0_3
    replace f0_4 := (x0.cells.1 _ _ hl0).trans f0_4
    replace f1_0 := (x0.cells.1 _ _ hl1).trans f1_0
    replace f1_1 := (x0.cells.1 _ _ hl1).trans f1_1
    replace p7_0 := (x0.cells.1 _ _ hl7).trans p7_0
    replace p7_1 := (x0.cells.1 _ _ hl7).trans p7_1
    replace hl0 := Nat.lt_of_lt_of_le hl0 x0.size
    replace hl1 := Nat.lt_of_lt_of_le hl1 x0.size
    replace hl7 := Nat.lt_of_lt_of_le hl7 x0.size
    replace hrW := hrW.ext x0
    replace hw := hw.ext x0
    replace hE := hE.trans x0
    generalize W.heap.size = gx at hx hpx0 hpx1 hpx7 hpxw hgx ⊢
    (try clear xc xf xs)
    clear x0
    rename World => W
    have x0 := Ext.refl W
    go_cut [11, 12, 13] (fun s7 s8 s9 wx => ∃ (g : Nat) (v : Value), s7 = .pointer (some ⟨g, 0, none⟩) ∧ s8 = v ∧ s9 = .int .i64 (alC z u i l m qs n k) ∧ Ext W wx ∧ W.heap.size ≤ g ∧ wx.cell? ⟨g, 0, none⟩ = some (.int .i64 (alE z u i l m qs n k)) ∧ wx.cell? ⟨g, 1, none⟩ = some (.int .i64 (alK z u i l m qs n k)) ∧ IntsOf wx W.heap.size v (alM z u i l m qs n k) ∧ some g ≠ v.ownBlock)
    case first =>
      have hk_hl0 := Nat.ne_of_gt hl0
      have hk_hl1 := Nat.ne_of_gt hl1
      go_region_held3 (fun w' => w'.cell? ⟨w.heap.size, 0, none⟩ = some (.int .i64 z) ∧ w'.cell? ⟨w.heap.size, 1, none⟩ = some (.int .i64 u) ∧ w'.cell? ⟨w.heap.size, 2, none⟩ = some (.int .i64 i) ∧ w'.cell? ⟨w.heap.size, 3, none⟩ = some (.int .i64 l) ∧ w'.cell? ⟨w.heap.size, 4, none⟩ = some (.int .i64 m) ∧ w'.cell? ⟨w.heap.size + 1, 0, none⟩ = some (.int .i64 n) ∧ w'.cell? ⟨w.heap.size + 1, 1, none⟩ = some (.int .i64 k))
        (first | (refine ⟨?_, ?_, ?_, ?_, ?_, ?_, ?_⟩ <;> (refine keep_ext (W := W) ?_ (by assumption) (by assumption) <;> (repeat (first | exact x0 | refine Ext.setCell ?_ (by simp; try omega) _ | refine Ext.alloc ?_ _ | refine Ext.drew ?_)))))
        (first | (go_at_call 19; refine (toEscapement_any _ _ _ _ _ _).mono ?_; rintro e w1 ⟨rfl, x1⟩; (try (first | replace hv := hv.ext x1 | replace hv := (hv.ext ((Ext.refl _).alloc _)).ext x1 | replace hv := (hv.ext ((Ext.refl _).drew)).ext x1 | replace hv := (hv.ext (((Ext.refl _).alloc _).drew)).ext x1)); (try clear xc xf); (try clear d0 d1 e0 e1 hd); (first | have nb := NB.new x1 | have nb := NB.newd x1 | replace nb := nb.ext x1 | skip); (try (have nb2 := nb; obtain ⟨d0, d1, e0, e1, hd⟩ := nb2)); (first | replace x0 := x0.trans x1 | replace x0 := (x0.alloc _).trans x1 | replace x0 := (x0.drew).trans x1 | replace x0 := (x0.drew.alloc _).trans x1 | replace x0 := (x0.alloc _).drew.trans x1 | replace x0 := ((x0.alloc _).alloc _).trans x1 | have x0 := x1); clear x1; obtain ⟨xc, xf, xs⟩ := x0.cells) | (go_at_call 22; refine (toBeat_any _ _ _).mono ?_; rintro e w1 ⟨rfl, x1⟩; (try (first | replace hv := hv.ext x1 | replace hv := (hv.ext ((Ext.refl _).alloc _)).ext x1 | replace hv := (hv.ext ((Ext.refl _).drew)).ext x1 | replace hv := (hv.ext (((Ext.refl _).alloc _).drew)).ext x1)); (try clear xc xf); (try clear d0 d1 e0 e1 hd); (first | have nb := NB.new x1 | have nb := NB.newd x1 | replace nb := nb.ext x1 | skip); (try (have nb2 := nb; obtain ⟨d0, d1, e0, e1, hd⟩ := nb2)); (first | replace x0 := x0.trans x1 | replace x0 := (x0.alloc _).trans x1 | replace x0 := (x0.drew).trans x1 | replace x0 := (x0.drew.alloc _).trans x1 | replace x0 := (x0.alloc _).drew.trans x1 | replace x0 := ((x0.alloc _).alloc _).trans x1 | have x0 := x1); clear x1; obtain ⟨xc, xf, xs⟩ := x0.cells) | (go_at_call 33; refine (implSwingAlong_any z u i l m n k _ _ _ qs _ (hx.ext (by first | exact x0 | exact x0.drew | exact x0.alloc _ | exact (x0.alloc _).drew | exact x0.drew.alloc _ | exact x0.drewN _ | exact x0.drew.drew)).row hn hs).mono ?_; rintro e w1 ⟨v, rfl, hrow, x1⟩; have hsz := own_sz hrow (by first | exact x0 | exact x0.drew | exact x0.alloc _ | exact (x0.alloc _).drew | exact x0.drew.alloc _ | exact x0.drewN _ | exact x0.drew.drew); (try (have hgb := nb.lt)); (try clear xc xf); (try clear d0 d1 e0 e1 hd); (first | have nb := NB.new x1 | have nb := NB.newd x1 | replace nb := nb.ext x1 | skip); (try (have nb2 := nb; obtain ⟨d0, d1, e0, e1, hd⟩ := nb2)); (first | replace x0 := x0.trans x1 | replace x0 := (x0.alloc _).trans x1 | replace x0 := (x0.drew).trans x1 | replace x0 := (x0.drew.alloc _).trans x1 | replace x0 := (x0.alloc _).drew.trans x1 | replace x0 := ((x0.alloc _).alloc _).trans x1 | have x0 := x1); clear x1; obtain ⟨xc, xf, xs⟩ := x0.cells))
      all_goals (go_wp2_with fail; go_meet; refine ⟨_, _, rfl, rfl, (by first | rfl | (simp [*]; done)), ?_, ?_, ?_, ?_, ?_, ?_⟩)
      all_goals first | (simp [go_sem, *]; done) | (refine two0 _ _ _ _ ?_; simp [*]; done) | (refine two1 _ _ _ _ ?_; simp [*]; done) | exact own_base hrow hsz | exact own_base (hrow.ext ((Ext.refl _).alloc _)) hsz | exact own_base ((hrow.other (by simp [*]) _).other (by simp [*]) _) hsz | exact off_row' hrow (by simp) | exact off_row hrow (by simp [*]) | (have := x0.size; simp at this; simp; omega) | (repeat (first | exact x0 | refine Ext.setCell ?_ (by simp; try omega) _ | refine Ext.alloc ?_ _ | refine Ext.drew ?_ | refine Ext.trans ?_ (by assumption)))
    case rest =>
    obtain ⟨g11, vg, rfl, rfl, rfl, x0, hg11, p11_0, p11_1, hg, hpg11⟩ := hcut
    have hpgw := apart hw hg (Nat.le_refl _)
    have hpgx := apart' hx hg (Nat.le_refl _)
    have hpx11 := off_row' hx hg11
    have hgg := hE.size
    have hpg0 := off_row hg hl0
    have hpg1 := off_row hg hl1
    have hpg7 := off_row hg hl7
    replace f0_0 := (x0.cells.1 _ _ hl0).trans f0_0
    replace f0_1 := (x0.cells.1 _ _ hl0).trans f0_1
    replace f0_2 := (x0.cells.1 _ _ hl0).trans f0_2
    replace f0_3 := (x0.cells.1 _ _ hl0).trans f0_3
    replace f0_4 := (x0.cells.1 _ _ hl0).trans f0_4
    replace f1_0 := (x0.cells.1 _ _ hl1).trans f1_0
    replace f1_1 := (x0.cells.1 _ _ hl1).trans f1_1
    replace p7_0 := (x0.cells.1 _ _ hl7).trans p7_0
    replace p7_1 := (x0.cells.1 _ _ hl7).trans p7_1
    replace hl0 := Nat.lt_of_lt_of_le hl0 x0.size
    replace hl1 := Nat.lt_of_lt_of_le hl1 x0.size
    replace hl7 := Nat.lt_of_lt_of_le hl7 x0.size
    replace hrW := hrW.ext x0
    replace hw := hw.ext x0
    replace hx := hx.ext x0
    replace hE := hE.trans x0
    generalize W.heap.size = Bg at hg hgg
    (try clear xc xf xs)
    clear x0
    rename World => W
    have x0 := Ext.refl W
    clear hg11
    obtain ⟨ag, cg, rfl⟩ := hg.shape
    have hl11 : g11 < W.heap.size := World.block_lt_of_cell? _ _ p11_0
    go_upto_region 8 with (first | (go_at_call 38; refine (eqBeat_same _ _ _).mono ?_; rintro e w1 ⟨rfl, x1⟩; (try clear xc xf xs); (first | replace x0 := x0.trans x1 | replace x0 := (x0.alloc _).trans x1 | replace x0 := (x0.drew).trans x1 | replace x0 := (x0.drew.alloc _).trans x1 | replace x0 := (x0.alloc _).drew.trans x1 | replace x0 := ((x0.alloc _).alloc _).trans x1 | have x0 := x1); clear x1; obtain ⟨xc, xf, xs⟩ := x0.cells) | (go_at_call 49; refine (eqInt64S_any _ _ _ _ _ _ _ (alM z u i l m qs n k) _ (hg.ext x0) (hw.ext x0) hL).mono ?_; rintro e w1 ⟨rfl, x1⟩; (try clear xc xf xs); (first | replace x0 := x0.trans x1 | replace x0 := (x0.alloc _).trans x1 | replace x0 := (x0.drew).trans x1 | replace x0 := (x0.drew.alloc _).trans x1 | replace x0 := (x0.alloc _).drew.trans x1 | replace x0 := ((x0.alloc _).alloc _).trans x1 | have x0 := x1); clear x1; obtain ⟨xc, xf, xs⟩ := x0.cells))
    go_upto_region 11 with (first | (go_at_call 49; refine (eqInt64S_any _ _ _ _ _ _ _ qs _ (hx.ext x0) hc hs).mono ?_; rintro e w1 ⟨rfl, x1⟩; (try clear xc xf xs); (first | replace x0 := x0.trans x1 | replace x0 := (x0.alloc _).trans x1 | replace x0 := (x0.drew).trans x1 | replace x0 := (x0.drew.alloc _).trans x1 | replace x0 := (x0.alloc _).drew.trans x1 | replace x0 := ((x0.alloc _).alloc _).trans x1 | have x0 := x1); clear x1; obtain ⟨xc, xf, xs⟩ := x0.cells) | (go_at_call 48; refine (toInt64S_any _ _ _ qs _ (hrW.ext x0) hn hs).mono ?_; rintro e w1 ⟨rfl, hc, x1⟩; (try clear xc xf xs); (first | replace x0 := x0.trans x1 | replace x0 := (x0.alloc _).trans x1 | replace x0 := (x0.drew).trans x1 | replace x0 := (x0.drew.alloc _).trans x1 | replace x0 := (x0.alloc _).drew.trans x1 | replace x0 := ((x0.alloc _).alloc _).trans x1 | have x0 := x1); clear x1; obtain ⟨xc, xf, xs⟩ := x0.cells))
    (try clear hc)
    replace f0_0 := (x0.cells.1 _ _ hl0).trans f0_0
    replace f0_1 := (x0.cells.1 _ _ hl0).trans f0_1
    replace f0_2 := (x0.cells.1 _ _ hl0).trans f0_2
    replace f0_3 := (x0.cells.1 _ _ hl0).trans f0_3
    replace f0_4 := (x0.cells.1 _ _ hl0).trans f0_4
    replace f1_0 := (x0.cells.1 _ _ hl1).trans f1_0
    replace f1_1 := (x0.cells.1 _ _ hl1).trans f1_1
    replace p7_0 := (x0.cells.1 _ _ hl7).trans p7_0
    replace p7_1 := (x0.cells.1 _ _ hl7).trans p7_1
    replace p11_0 := (x0.cells.1 _ _ hl11).trans p11_0
    replace p11_1 := (x0.cells.1 _ _ hl11).trans p11_1
    replace hl0 := Nat.lt_of_lt_of_le hl0 x0.size
    replace hl1 := Nat.lt_of_lt_of_le hl1 x0.size
    replace hl7 := Nat.lt_of_lt_of_le hl7 x0.size
    replace hl11 := Nat.lt_of_lt_of_le hl11 x0.size
    replace hrW := hrW.ext x0
    replace hw := hw.ext x0
    replace hx := hx.ext x0
    replace hg := hg.ext x0
    replace hE := hE.trans x0
    (try clear xc xf xs)
    clear x0
    rename World => W
    have x0 := Ext.refl W
    go_upto_region 12 with (go_at_call 50; refine (markInt64S_any _ _ _ _ 1 qs _ hx hs (by omega)).mono ?_; rintro e w1 ⟨rfl, ⟨ys, hy, hyz⟩, hwr⟩)
    replace f0_0 := (hwr.cell hl0 hpx0).trans f0_0
    replace f0_1 := (hwr.cell hl0 hpx0).trans f0_1
    replace f0_2 := (hwr.cell hl0 hpx0).trans f0_2
    replace f0_3 := (hwr.cell hl0 hpx0).trans f0_3
    replace f0_4 := (hwr.cell hl0 hpx0).trans f0_4
    replace hl0 := Nat.lt_of_lt_of_le hl0 hwr.size
    replace f1_0 := (hwr.cell hl1 hpx1).trans f1_0
    replace f1_1 := (hwr.cell hl1 hpx1).trans f1_1
    replace hl1 := Nat.lt_of_lt_of_le hl1 hwr.size
    replace p7_0 := (hwr.cell hl7 hpx7).trans p7_0
    replace p7_1 := (hwr.cell hl7 hpx7).trans p7_1
    replace hl7 := Nat.lt_of_lt_of_le hl7 hwr.size
    replace p11_0 := (hwr.cell hl11 hpx11).trans p11_0
    replace p11_1 := (hwr.cell hl11 hpx11).trans p11_1
    replace hl11 := Nat.lt_of_lt_of_le hl11 hwr.size
    replace hw := hw.wrote hwr hpxw
    replace hg := hg.wrote hwr hpgx
    replace hE := hwr.ext hE (fun k hk => by have := (hx.lt k hk).1; omega)
    replace hrW := hr.ext hE
    clear hwr hy hyz hx hpxw hpgx hpx0 hpx1 hpx7 hpx11 x0
    rename World => W
    have x0 := Ext.refl W
    have tk : ¬ (1 + (N : Int)) < 0 := by omega
    go_upto_region 15 with (first | (go_at_call 38; refine (eqBeat_same _ _ _).mono ?_; rintro e w1 ⟨rfl, x1⟩; (try clear xc xf xs); (first | replace x0 := x0.trans x1 | replace x0 := (x0.alloc _).trans x1 | replace x0 := (x0.drew).trans x1 | replace x0 := (x0.drew.alloc _).trans x1 | replace x0 := (x0.alloc _).drew.trans x1 | replace x0 := ((x0.alloc _).alloc _).trans x1 | have x0 := x1); clear x1; obtain ⟨xc, xf, xs⟩ := x0.cells) | (go_at_call 49; refine (eqInt64S_any _ _ _ _ _ _ _ (alM z u i l m qs n k) _ (hg.ext x0) (hw.ext x0) hL).mono ?_; rintro e w1 ⟨rfl, x1⟩; (try clear xc xf xs); (first | replace x0 := x0.trans x1 | replace x0 := (x0.alloc _).trans x1 | replace x0 := (x0.drew).trans x1 | replace x0 := (x0.drew.alloc _).trans x1 | replace x0 := (x0.alloc _).drew.trans x1 | replace x0 := ((x0.alloc _).alloc _).trans x1 | have x0 := x1); clear x1; obtain ⟨xc, xf, xs⟩ := x0.cells))
    replace f0_0 := (x0.cells.1 _ _ hl0).trans f0_0
    replace f0_1 := (x0.cells.1 _ _ hl0).trans f0_1
    replace f0_2 := (x0.cells.1 _ _ hl0).trans f0_2
    replace f0_3 := (x0.cells.1 _ _ hl0).trans f0_3
    replace f0_4 := (x0.cells.1 _ _ hl0).trans f0_4
    replace f1_0 := (x0.cells.1 _ _ hl1).trans f1_0
    replace f1_1 := (x0.cells.1 _ _ hl1).trans f1_1
    replace p7_0 := (x0.cells.1 _ _ hl7).trans p7_0
    replace p7_1 := (x0.cells.1 _ _ hl7).trans p7_1
    replace p11_0 := (x0.cells.1 _ _ hl11).trans p11_0
    replace p11_1 := (x0.cells.1 _ _ hl11).trans p11_1
    replace hl0 := Nat.lt_of_lt_of_le hl0 x0.size
    replace hl1 := Nat.lt_of_lt_of_le hl1 x0.size
    replace hl7 := Nat.lt_of_lt_of_le hl7 x0.size
    replace hl11 := Nat.lt_of_lt_of_le hl11 x0.size
    replace hrW := hrW.ext x0
    replace hw := hw.ext x0
    replace hg := hg.ext x0
    replace hE := hE.trans x0
    (try clear xc xf xs)
    clear x0
    rename World => W
    have x0 := Ext.refl W
    go_upto_region 16 with (go_at_call 50; refine (markInt64S_any _ _ _ _ 1 (alM z u i l m qs n k) _ hg hL (by omega)).mono ?_; rintro e w1 ⟨rfl, ⟨ys, hy, hyz⟩, hwr⟩)
    replace f0_0 := (hwr.cell hl0 hpg0).trans f0_0
    replace f0_1 := (hwr.cell hl0 hpg0).trans f0_1
    replace f0_2 := (hwr.cell hl0 hpg0).trans f0_2
    replace f0_3 := (hwr.cell hl0 hpg0).trans f0_3
    replace f0_4 := (hwr.cell hl0 hpg0).trans f0_4
    replace hl0 := Nat.lt_of_lt_of_le hl0 hwr.size
    replace f1_0 := (hwr.cell hl1 hpg1).trans f1_0
    replace f1_1 := (hwr.cell hl1 hpg1).trans f1_1
    replace hl1 := Nat.lt_of_lt_of_le hl1 hwr.size
    replace p7_0 := (hwr.cell hl7 hpg7).trans p7_0
    replace p7_1 := (hwr.cell hl7 hpg7).trans p7_1
    replace hl7 := Nat.lt_of_lt_of_le hl7 hwr.size
    replace p11_0 := (hwr.cell hl11 hpg11).trans p11_0
    replace p11_1 := (hwr.cell hl11 hpg11).trans p11_1
    replace hl11 := Nat.lt_of_lt_of_le hl11 hwr.size
    replace hw := hw.wrote hwr hpgw
    replace hE := hwr.ext hE (fun k hk => by have := (hg.lt k hk).1; omega)
    replace hrW := hr.ext hE
    clear hwr hg hpgw hpg0 hpg1 hpg7 hpg11 x0
    rename World => W
    have x0 := Ext.refl W
    replace hyz := Lib.hid hyz
    have tm : ¬ (1 + (((alM z u i l m qs n k).length : Nat) : Int)) < 0 := by omega
    go_upto_region 22 with (go_at_call 51; refine (heldInt64S_any _ _ _ _ 1 ys _ (hy.ext x0) hyz.out hL (by omega)).mono ?_; rintro e w1 ⟨rfl, x1⟩; (try clear xc xf xs); (first | replace x0 := x0.trans x1 | replace x0 := (x0.alloc _).trans x1 | replace x0 := (x0.drew).trans x1 | replace x0 := (x0.drew.alloc _).trans x1 | replace x0 := (x0.alloc _).drew.trans x1 | replace x0 := ((x0.alloc _).alloc _).trans x1 | have x0 := x1); clear x1; obtain ⟨xc, xf, xs⟩ := x0.cells)
    replace f0_0 := (x0.cells.1 _ _ hl0).trans f0_0
    replace f0_1 := (x0.cells.1 _ _ hl0).trans f0_1
    replace f0_2 := (x0.cells.1 _ _ hl0).trans f0_2
    replace f0_3 := (x0.cells.1 _ _ hl0).trans f0_3
    replace f0_4 := (x0.cells.1 _ _ hl0).trans f0_4
    replace f1_0 := (x0.cells.1 _ _ hl1).trans f1_0
    replace f1_1 := (x0.cells.1 _ _ hl1).trans f1_1
    replace p7_0 := (x0.cells.1 _ _ hl7).trans p7_0
    replace p7_1 := (x0.cells.1 _ _ hl7).trans p7_1
    replace p11_0 := (x0.cells.1 _ _ hl11).trans p11_0
    replace p11_1 := (x0.cells.1 _ _ hl11).trans p11_1
    replace hl0 := Nat.lt_of_lt_of_le hl0 x0.size
    replace hl1 := Nat.lt_of_lt_of_le hl1 x0.size
    replace hl7 := Nat.lt_of_lt_of_le hl7 x0.size
    replace hl11 := Nat.lt_of_lt_of_le hl11 x0.size
    replace hrW := hrW.ext x0
    replace hw := hw.ext x0
    replace hy := hy.ext x0
    replace hE := hE.trans x0
    (try clear xc xf xs)
    clear x0
    rename World => W
    have x0 := Ext.refl W
    go_cut [17, 18, 19] (fun s7 s8 s9 wx => ∃ (g : Nat) (v : Value), s7 = .pointer (some ⟨g, 0, none⟩) ∧ s8 = v ∧ s9 = .int .i64 (alC z u i l m qs n k) ∧ Ext W wx ∧ W.heap.size ≤ g ∧ wx.cell? ⟨g, 0, none⟩ = some (.int .i64 (alE z u i l m qs n k)) ∧ wx.cell? ⟨g, 1, none⟩ = some (.int .i64 (alK z u i l m qs n k)) ∧ IntsOf wx W.heap.size v (alM z u i l m qs n k) ∧ some g ≠ v.ownBlock)
    case first =>
      have hk_hl0 := Nat.ne_of_gt hl0
      have hk_hl1 := Nat.ne_of_gt hl1
      go_region_held3 (fun w' => w'.cell? ⟨w.heap.size, 0, none⟩ = some (.int .i64 z) ∧ w'.cell? ⟨w.heap.size, 1, none⟩ = some (.int .i64 u) ∧ w'.cell? ⟨w.heap.size, 2, none⟩ = some (.int .i64 i) ∧ w'.cell? ⟨w.heap.size, 3, none⟩ = some (.int .i64 l) ∧ w'.cell? ⟨w.heap.size, 4, none⟩ = some (.int .i64 m) ∧ w'.cell? ⟨w.heap.size + 1, 0, none⟩ = some (.int .i64 n) ∧ w'.cell? ⟨w.heap.size + 1, 1, none⟩ = some (.int .i64 k))
        (first | (refine ⟨?_, ?_, ?_, ?_, ?_, ?_, ?_⟩ <;> (refine keep_ext (W := W) ?_ (by assumption) (by assumption) <;> (repeat (first | exact x0 | refine Ext.setCell ?_ (by simp; try omega) _ | refine Ext.alloc ?_ _ | refine Ext.drew ?_)))))
        (first | (go_at_call 19; refine (toEscapement_any _ _ _ _ _ _).mono ?_; rintro e w1 ⟨rfl, x1⟩; (try (first | replace hv := hv.ext x1 | replace hv := (hv.ext ((Ext.refl _).alloc _)).ext x1 | replace hv := (hv.ext ((Ext.refl _).drew)).ext x1 | replace hv := (hv.ext (((Ext.refl _).alloc _).drew)).ext x1)); (try clear xc xf); (try clear d0 d1 e0 e1 hd); (first | have nb := NB.new x1 | have nb := NB.newd x1 | replace nb := nb.ext x1 | skip); (try (have nb2 := nb; obtain ⟨d0, d1, e0, e1, hd⟩ := nb2)); (first | replace x0 := x0.trans x1 | replace x0 := (x0.alloc _).trans x1 | replace x0 := (x0.drew).trans x1 | replace x0 := (x0.drew.alloc _).trans x1 | replace x0 := (x0.alloc _).drew.trans x1 | replace x0 := ((x0.alloc _).alloc _).trans x1 | have x0 := x1); clear x1; obtain ⟨xc, xf, xs⟩ := x0.cells) | (go_at_call 22; refine (toBeat_any _ _ _).mono ?_; rintro e w1 ⟨rfl, x1⟩; (try (first | replace hv := hv.ext x1 | replace hv := (hv.ext ((Ext.refl _).alloc _)).ext x1 | replace hv := (hv.ext ((Ext.refl _).drew)).ext x1 | replace hv := (hv.ext (((Ext.refl _).alloc _).drew)).ext x1)); (try clear xc xf); (try clear d0 d1 e0 e1 hd); (first | have nb := NB.new x1 | have nb := NB.newd x1 | replace nb := nb.ext x1 | skip); (try (have nb2 := nb; obtain ⟨d0, d1, e0, e1, hd⟩ := nb2)); (first | replace x0 := x0.trans x1 | replace x0 := (x0.alloc _).trans x1 | replace x0 := (x0.drew).trans x1 | replace x0 := (x0.drew.alloc _).trans x1 | replace x0 := (x0.alloc _).drew.trans x1 | replace x0 := ((x0.alloc _).alloc _).trans x1 | have x0 := x1); clear x1; obtain ⟨xc, xf, xs⟩ := x0.cells) | (go_at_call 48; refine (toInt64S_any _ _ _ qs _ (hrW.ext (by first | exact x0 | exact x0.drew | exact x0.alloc _ | exact (x0.alloc _).drew | exact x0.drew.alloc _ | exact x0.drewN _ | exact x0.drew.drew)) hn hs).mono ?_; rintro e w1 ⟨rfl, hv, x1⟩; (try simp only [World.size_alloc] at hv); (try clear xc xf); (try clear d0 d1 e0 e1 hd); (first | have nb := NB.new x1 | have nb := NB.newd x1 | replace nb := nb.ext x1 | skip); (try (have nb2 := nb; obtain ⟨d0, d1, e0, e1, hd⟩ := nb2)); (first | replace x0 := x0.trans x1 | replace x0 := (x0.alloc _).trans x1 | replace x0 := (x0.drew).trans x1 | replace x0 := (x0.drew.alloc _).trans x1 | replace x0 := (x0.alloc _).drew.trans x1 | replace x0 := ((x0.alloc _).alloc _).trans x1 | have x0 := x1); clear x1; obtain ⟨xc, xf, xs⟩ := x0.cells) | (go_at_call 33; refine (implSwingAlong_any z u i l m n k _ _ _ qs _ (by first | exact hv.row | exact (hv.ext ((Ext.refl _).alloc _)).row | exact (hv.ext ((Ext.refl _).drew)).row | exact (hv.ext (((Ext.refl _).alloc _).drew)).row) hn hs).mono ?_; rintro e w1 ⟨v, rfl, hrow, x1⟩; have hsz := own_sz hrow (by first | exact x0 | exact x0.drew | exact x0.alloc _ | exact (x0.alloc _).drew | exact x0.drew.alloc _ | exact x0.drewN _ | exact x0.drew.drew); (try (have hgb := nb.lt)); (try clear xc xf); (try clear d0 d1 e0 e1 hd); (first | have nb := NB.new x1 | have nb := NB.newd x1 | replace nb := nb.ext x1 | skip); (try (have nb2 := nb; obtain ⟨d0, d1, e0, e1, hd⟩ := nb2)); (first | replace x0 := x0.trans x1 | replace x0 := (x0.alloc _).trans x1 | replace x0 := (x0.drew).trans x1 | replace x0 := (x0.drew.alloc _).trans x1 | replace x0 := (x0.alloc _).drew.trans x1 | replace x0 := ((x0.alloc _).alloc _).trans x1 | have x0 := x1); clear x1; obtain ⟨xc, xf, xs⟩ := x0.cells))
      all_goals (go_wp2_with fail; go_meet; refine ⟨_, _, rfl, rfl, (by first | rfl | (simp [*]; done)), ?_, ?_, ?_, ?_, ?_, ?_⟩)
      all_goals first | (simp [go_sem, *]; done) | (refine two0 _ _ _ _ ?_; simp [*]; done) | (refine two1 _ _ _ _ ?_; simp [*]; done) | exact own_base hrow hsz | exact own_base (hrow.ext ((Ext.refl _).alloc _)) hsz | exact own_base ((hrow.other (by simp [*]) _).other (by simp [*]) _) hsz | exact off_row' hrow (by simp) | exact off_row hrow (by simp [*]) | (have := x0.size; simp at this; simp; omega) | (repeat (first | exact x0 | refine Ext.setCell ?_ (by simp; try omega) _ | refine Ext.alloc ?_ _ | refine Ext.drew ?_ | refine Ext.trans ?_ (by assumption)))
    case rest =>
    obtain ⟨g17, vh, rfl, rfl, rfl, x0, hg17, p17_0, p17_1, hh, hpg17⟩ := hcut
    replace f0_0 := (x0.cells.1 _ _ hl0).trans f0_0
    replace f0_1 := (x0.cells.1 _ _ hl0).trans f0_1
    replace f0_2 := (x0.cells.1 _ _ hl0).trans f0_2
    replace f0_3 := (x0.cells.1 _ _ hl0).trans f0_3
    replace f0_4 := (x0.cells.1 _ _ hl0).trans f0_4
    replace f1_0 := (x0.cells.1 _ _ hl1).trans f1_0
    replace f1_1 := (x0.cells.1 _ _ hl1).trans f1_1
    replace p7_0 := (x0.cells.1 _ _ hl7).trans p7_0
    replace p7_1 := (x0.cells.1 _ _ hl7).trans p7_1
    replace p11_0 := (x0.cells.1 _ _ hl11).trans p11_0
    replace p11_1 := (x0.cells.1 _ _ hl11).trans p11_1
    replace hl0 := Nat.lt_of_lt_of_le hl0 x0.size
    replace hl1 := Nat.lt_of_lt_of_le hl1 x0.size
    replace hl7 := Nat.lt_of_lt_of_le hl7 x0.size
    replace hl11 := Nat.lt_of_lt_of_le hl11 x0.size
    replace hrW := hrW.ext x0
    replace hw := hw.ext x0
    replace hy := hy.ext x0
    replace hE := hE.trans x0
    (try clear xc xf xs)
    clear x0
    rename World => W
    have x0 := Ext.refl W
    clear hg17 hpg17
    obtain ⟨ah, ch, rfl⟩ := hh.shape
    have hl17 : g17 < W.heap.size := World.block_lt_of_cell? _ _ p17_0
    go_wp2_with (first | (go_at_call 38; refine (eqBeat_same _ _ _).mono ?_; rintro e w1 ⟨rfl, x1⟩; (try clear xc xf xs); (first | replace x0 := x0.trans x1 | replace x0 := (x0.alloc _).trans x1 | replace x0 := (x0.drew).trans x1 | replace x0 := (x0.drew.alloc _).trans x1 | replace x0 := (x0.alloc _).drew.trans x1 | replace x0 := ((x0.alloc _).alloc _).trans x1 | have x0 := x1); clear x1; obtain ⟨xc, xf, xs⟩ := x0.cells) | (go_at_call 49; refine (eqInt64S_any _ _ _ _ _ _ _ (alM z u i l m qs n k) _ (hh.ext x0) (hw.ext x0) hL).mono ?_; rintro e w1 ⟨rfl, x1⟩; (try clear xc xf xs); (first | replace x0 := x0.trans x1 | replace x0 := (x0.alloc _).trans x1 | replace x0 := (x0.drew).trans x1 | replace x0 := (x0.drew.alloc _).trans x1 | replace x0 := (x0.alloc _).drew.trans x1 | replace x0 := ((x0.alloc _).alloc _).trans x1 | have x0 := x1); clear x1; obtain ⟨xc, xf, xs⟩ := x0.cells) | (go_at_call 51; refine (heldInt64S_any _ _ _ _ 1 ys _ (hy.ext x0) hyz.out hL (by omega)).mono ?_; rintro e w1 ⟨rfl, x1⟩; (try clear xc xf xs); (first | replace x0 := x0.trans x1 | replace x0 := (x0.alloc _).trans x1 | replace x0 := (x0.drew).trans x1 | replace x0 := (x0.drew.alloc _).trans x1 | replace x0 := (x0.alloc _).drew.trans x1 | replace x0 := ((x0.alloc _).alloc _).trans x1 | have x0 := x1); clear x1; obtain ⟨xc, xf, xs⟩ := x0.cells))
    go_ret
    exact ⟨rfl, hE.trans x0⟩
  · have t0 : (1048576 : Int) < (N : Int) := by omega
    go_enter Try.func14, Try.ntmps14
    go_wp2
    go_ret
    exact ⟨rfl, (((Ext.refl _).alloc _).alloc _)⟩
end Go.Proofs.Ytehebhphlaghfaa
