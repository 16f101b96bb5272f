/-
  The mean temperature.
-/
import Derived.Test.YtiodlbgfgeimoaaMakeR
import Derived.Test.YtiodlbgfgeimoaaSums
namespace Go.Proofs.Ytiodlbgfgeimoaa
open Go.RowKit
set_option linter.unusedSimpArgs false
set_option linter.unusedVariables false


def hrs (zs : List (Int × Int)) : Nat → Int
  | 0 => 0
  | k + 1 => hrs zs k + (zs.getD k (0, 0)).1
def wtd (zs : List (Int × Int)) : Nat → Int
  | 0 => 0
  | k + 1 => wtd zs k + (zs.getD k (0, 0)).1 * (zs.getD k (0, 0)).2
theorem hrs_bd {zs : List (Int × Int)} (hv : vSegs zs = true) (k : Nat) (hk : k ≤ zs.length) : (k : Int) ≤ hrs zs k ∧ hrs zs k ≤ 240 * (k : Int) := by
  induction k with
  | zero => simp [hrs]
  | succ k ih =>
    have h1 := ih (by omega)
    obtain ⟨h2, h3⟩ := vSegs_at hv (j := k) (by omega)
    simp only [hrs]
    omega
theorem wtd_bd {zs : List (Int × Int)} (hv : vSegs zs = true) (k : Nat) (hk : k ≤ zs.length) : -(144000 * (k : Int)) ≤ wtd zs k ∧ wtd zs k ≤ 144000 * (k : Int) := by
  induction k with
  | zero => simp [wtd]
  | succ k ih =>
    have h1 := ih (by omega)
    obtain ⟨h2, h3⟩ := vSegs_at hv (j := k) (by omega)
    have h5 := mul_abs (x := (zs.getD k (0, 0)).1) (y := (zs.getD k (0, 0)).2) (X := 240) (Y := 600) (by omega) (by omega)
    simp only [wtd]
    omega
def mtN (zs : List (Int × Int)) : Int := if vSegs zs = true then (if zs.length = 0 then 0 else mkN (wtd zs zs.length) (hrs zs zs.length)) else 0
def mtD (zs : List (Int × Int)) : Int := if vSegs zs = true then (if zs.length = 0 then 0 else mkD (wtd zs zs.length) (hrs zs zs.length)) else 0
def mtC (zs : List (Int × Int)) : Int := if vSegs zs = true then (if zs.length = 0 then 6 else mkC (wtd zs zs.length) (hrs zs zs.length)) else 1

set_option maxHeartbeats 1000000 in
theorem hoursOf_any (a : Option Addr) (n cp : Nat) (zs : List (Int × Int)) (w : World) (hv : vSegs zs = true) (hr : RowAt w a zs) (hn : zs.length = n) :
    Calls Try.prog 78 #[.slice a n cp] w fun e w' => e = .returned (.int .i64 (hrs zs n)) ∧ Ext w w' := by
  have hlen := vSegs_len hv
  go_enter Try.func78, Try.ntmps78
  go_wp2_with fail
  go_loopw [3, 8] (fun s k wr => ∃ i : Nat, k = .int .i64 i ∧ i ≤ n ∧ s = .int .i64 (hrs zs i) ∧ Ext w wr) (fun _ k _ => n - (intOf k).toNat)
  case atStart => exact ⟨0, rfl, Nat.zero_le _, rfl, Ext.refl _⟩
  case round =>
    obtain ⟨i, rfl, hi, rfl, xw⟩ := hrel
    by_cases h0 : i < n
    · obtain ⟨bb, off, rfl, hbb, x, y, ex, ey, c0, c1⟩ := (hr.ext xw).look (j := i) (by omega)
      have hx := (vSegs_at hv (j := i) (by omega)).1
      have hb := hrs_bd hv i (by omega)
      have hst := Lib.hid (show hrs zs (i + 1) = hrs zs i + x by rw [← ex.out]; rfl)
      rw [ex.out] at hx
      generalize hS : hrs zs i = S at *
      have t1 : decide ((i : Int) < (n : Int)) = true := by simp; omega
      have hne : wr.heap.size ≠ bb := by omega
      have q1 : IntKind.i64.wrap (S + x) = S + x := IntWalk.i64_in _ (by omega)
      clear ex ey hr hS
      go_wp2_with fail
      go_roundw
      case rel => exact ⟨i + 1, by go_num, by omega, by rw [hst.out], xw.alloc _⟩
      case measure => simp [intOf]; omega
    · have hin : i = n := by omega
      subst hin
      have t1 : decide ((i : Int) < (i : Int)) = false := by simp
      clear hr
      go_wp2
      go_ret
      exact ⟨rfl, xw⟩

set_option maxHeartbeats 1000000 in
theorem l12Hours_any (a : Option Addr) (n cp : Nat) (zs : List (Int × Int)) (w : World) (hv : vSegs zs = true) (hr : RowAt w a zs) (hn : zs.length = n) :
    Calls Try.prog 77 #[.slice a n cp] w fun e w' => e = .returned (.int .i64 (hrs zs n)) ∧ Ext w w' := by
  have hlen := vSegs_len hv
  go_enter Try.func77, Try.ntmps77
  go_wp2_with fail
  go_loopw [3, 4] (fun s k wr => ∃ i : Nat, k = .int .i64 i ∧ i ≤ n ∧ s = .int .i64 (hrs zs i) ∧ Ext w wr) (fun _ k _ => n - (intOf k).toNat)
  case atStart => exact ⟨0, rfl, Nat.zero_le _, rfl, Ext.refl _⟩
  case round =>
    obtain ⟨i, rfl, hi, rfl, xw⟩ := hrel
    by_cases h0 : i < n
    · obtain ⟨bb, off, rfl, hbb, x, y, ex, ey, c0, c1⟩ := (hr.ext xw).look (j := i) (by omega)
      have hx := (vSegs_at hv (j := i) (by omega)).1
      have hb := hrs_bd hv i (by omega)
      have hst := Lib.hid (show hrs zs (i + 1) = hrs zs i + x by rw [← ex.out]; rfl)
      rw [ex.out] at hx
      generalize hS : hrs zs i = S at *
      have t1 : decide ((i : Int) < (n : Int)) = true := by simp; omega
      have hne : wr.heap.size ≠ bb := by omega
      have q1 : IntKind.i64.wrap (S + x) = S + x := IntWalk.i64_in _ (by omega)
      clear ex ey hr hS
      go_wp2_with fail
      go_roundw
      case rel => exact ⟨i + 1, by go_num, by omega, by rw [hst.out], xw⟩
      case measure => simp [intOf]; omega
    · have hin : i = n := by omega
      subst hin
      have t1 : decide ((i : Int) < (i : Int)) = false := by simp
      clear hr
      go_wp2
      go_ret
      exact ⟨rfl, xw⟩

set_option maxHeartbeats 4000000 in
theorem implMeanTemp_any (a : Option Addr) (n cp : Nat) (zs : List (Int × Int)) (w : World) (hr : RowAt w a zs) (hn : zs.length = n) (hk : n ≤ 1048576) :
    Calls Try.prog 42 #[.slice a n cp] w fun e w' => e = .returned (.tuple #[.agg #[.int .i64 (mtN zs), .int .i64 (mtD zs)], .int .i64 (mtC zs)]) ∧ Ext w w' := by
  cases h2 : vSegs zs
  · have e1 := Lib.hid (show 0 = mtN zs by simp [mtN, h2])
    have e2 := Lib.hid (show 0 = mtD zs by simp [mtD, h2])
    have e3 := Lib.hid (show 1 = mtC zs by simp [mtC, h2])
    go_enter Try.func42, Try.ntmps42
    go_wp2_with fail
    generalize hW : (w.alloc (Obj.cells #[.int .i64 0, .int .i64 0] 39)) = W
    have hE : Ext w W := by rw [← hW]; exact (Ext.refl _).alloc _
    have hl0 : w.heap.size < W.heap.size := by rw [← hW]; simp
    have f0_0 : W.cell? ⟨w.heap.size, 0, none⟩ = some (.int .i64 0) := by rw [← hW]; simp [go_sem]
    have f0_1 : W.cell? ⟨w.heap.size, 1, none⟩ = some (.int .i64 0) := by rw [← hW]; simp [go_sem]
    have z0_0 : W.frozen? ⟨w.heap.size, 0, none⟩ = false := by rw [← hW]; simp [go_sem]
    have z0_1 : W.frozen? ⟨w.heap.size, 1, none⟩ = false := by rw [← hW]; simp [go_sem]
    clear hW
    have hrW := hr.ext hE
    have x0 := Ext.refl W
    go_wp2_with (first | (go_at_call 28; refine (implValidSegments_any _ _ _ zs _ (hrW.ext x0) hn hk).mono ?_; rintro e w1 ⟨rfl, x1⟩; (try clear xc xf xs); (first | replace x0 := x0.trans x1 | replace x0 := (x0.alloc _).trans x1 | replace x0 := (x0.drew).trans x1 | replace x0 := (x0.drew.alloc _).trans x1 | replace x0 := (x0.alloc _).drew.trans x1 | replace x0 := ((x0.alloc _).alloc _).trans x1 | have x0 := x1); clear x1; obtain ⟨xc, xf, xs⟩ := x0.cells))
    exact bodyPost_ret (v := .tuple #[.agg #[.int .i64 (0), .int .i64 (0)], .int .i64 (1)]) (by simp [results, Try.results42, go_sem, *]) rfl ⟨rt2 e1.out e2.out e3.out, by (repeat (first | refine Ext.setCell ?_ (by simp; try omega) _ | refine Ext.alloc ?_ _)); exact hE.trans x0⟩
  · have hlen := vSegs_len h2
    by_cases hz : n = 0
    · subst hz
      have e1 := Lib.hid (show 0 = mtN zs by simp [mtN, h2, hn])
      have e2 := Lib.hid (show 0 = mtD zs by simp [mtD, h2, hn])
      have e3 := Lib.hid (show 6 = mtC zs by simp [mtC, h2, hn])
      go_enter Try.func42, Try.ntmps42
      go_wp2_with fail
      generalize hW : (w.alloc (Obj.cells #[.int .i64 0, .int .i64 0] 39)) = W
      have hE : Ext w W := by rw [← hW]; exact (Ext.refl _).alloc _
      have hl0 : w.heap.size < W.heap.size := by rw [← hW]; simp
      have f0_0 : W.cell? ⟨w.heap.size, 0, none⟩ = some (.int .i64 0) := by rw [← hW]; simp [go_sem]
      have f0_1 : W.cell? ⟨w.heap.size, 1, none⟩ = some (.int .i64 0) := by rw [← hW]; simp [go_sem]
      have z0_0 : W.frozen? ⟨w.heap.size, 0, none⟩ = false := by rw [← hW]; simp [go_sem]
      have z0_1 : W.frozen? ⟨w.heap.size, 1, none⟩ = false := by rw [← hW]; simp [go_sem]
      clear hW
      have hrW := hr.ext hE
      have x0 := Ext.refl W
      go_wp2_with (first | (go_at_call 28; refine (implValidSegments_any _ _ _ zs _ (hrW.ext x0) hn hk).mono ?_; rintro e w1 ⟨rfl, x1⟩; (try clear xc xf xs); (first | replace x0 := x0.trans x1 | replace x0 := (x0.alloc _).trans x1 | replace x0 := (x0.drew).trans x1 | replace x0 := (x0.drew.alloc _).trans x1 | replace x0 := (x0.alloc _).drew.trans x1 | replace x0 := ((x0.alloc _).alloc _).trans x1 | have x0 := x1); clear x1; obtain ⟨xc, xf, xs⟩ := x0.cells))
      exact bodyPost_ret (v := .tuple #[.agg #[.int .i64 (0), .int .i64 (0)], .int .i64 (6)]) (by simp [results, Try.results42, go_sem, *]) rfl ⟨rt2 e1.out e2.out e3.out, by (repeat (first | refine Ext.setCell ?_ (by simp; try omega) _ | refine Ext.alloc ?_ _)); exact hE.trans x0⟩
    · have e1 := Lib.hid (show mkN (wtd zs n) (hrs zs n) = mtN zs by simp [mtN, h2, hn, hz])
      have e2 := Lib.hid (show mkD (wtd zs n) (hrs zs n) = mtD zs by simp [mtD, h2, hn, hz])
      have e3 := Lib.hid (show mkC (wtd zs n) (hrs zs n) = mtC zs by simp [mtC, h2, hn, hz])
      go_enter Try.func42, Try.ntmps42
      go_wp2_with fail
      generalize hW : (w.alloc (Obj.cells #[.int .i64 0, .int .i64 0] 39)) = W
      have hE : Ext w W := by rw [← hW]; exact (Ext.refl _).alloc _
      have hl0 : w.heap.size < W.heap.size := by rw [← hW]; simp
      have f0_0 : W.cell? ⟨w.heap.size, 0, none⟩ = some (.int .i64 0) := by rw [← hW]; simp [go_sem]
      have f0_1 : W.cell? ⟨w.heap.size, 1, none⟩ = some (.int .i64 0) := by rw [← hW]; simp [go_sem]
      have z0_0 : W.frozen? ⟨w.heap.size, 0, none⟩ = false := by rw [← hW]; simp [go_sem]
      have z0_1 : W.frozen? ⟨w.heap.size, 1, none⟩ = false := by rw [← hW]; simp [go_sem]
      clear hW
      have hrW := hr.ext hE
      have x0 := Ext.refl W
      go_wp2_with (first | (go_at_call 28; refine (implValidSegments_any _ _ _ zs _ (hrW.ext x0) hn hk).mono ?_; rintro e w1 ⟨rfl, x1⟩; (try clear xc xf xs); (first | replace x0 := x0.trans x1 | replace x0 := (x0.alloc _).trans x1 | replace x0 := (x0.drew).trans x1 | replace x0 := (x0.drew.alloc _).trans x1 | replace x0 := (x0.alloc _).drew.trans x1 | replace x0 := ((x0.alloc _).alloc _).trans x1 | have x0 := x1); clear x1; obtain ⟨xc, xf, xs⟩ := x0.cells))
      go_loopw [4, 17] (fun s k wr => ∃ i : Nat, k = .int .i64 i ∧ i ≤ n ∧ s = .int .i64 (wtd zs i) ∧ Ext W wr) (fun _ k _ => n - (intOf k).toNat)
      case atStart => exact ⟨0, rfl, Nat.zero_le _, rfl, x0⟩
      case round =>
        clear x0 xc xf xs
        obtain ⟨i, rfl, hi, rfl, xw⟩ := hrel
        by_cases h0 : i < n
        · obtain ⟨bb, off, rfl, hbb, x, y, ex, ey, c0, c1⟩ := (hrW.ext xw).look (j := i) (by omega)
          obtain ⟨hx, hy⟩ := vSegs_at h2 (j := i) (by omega)
          have hb := wtd_bd h2 i (by omega)
          have hst := Lib.hid (show wtd zs (i + 1) = wtd zs i + x * y by rw [← ex.out, ← ey.out]; rfl)
          rw [ex.out] at hx
          rw [ey.out] at hy
          have hp := mul_abs (x := x) (y := y) (X := 240) (Y := 600) (by omega) (by omega)
          generalize hS : wtd zs i = S at *
          have t1 : decide ((i : Int) < (n : Int)) = true := by simp; omega
          have hne : wr.heap.size ≠ bb := by omega
          have q1 : IntKind.i64.wrap (x * y) = x * y := IntWalk.i64_in _ (by omega)
          have q2 : IntKind.i64.wrap (S + x * y) = S + x * y := IntWalk.i64_in _ (by omega)
          clear ex ey hr hrW hS
          go_wp2_with fail
          
          go_roundw
          case rel => exact ⟨i + 1, by go_num, by omega, by rw [hst.out], xw.alloc _⟩
          case measure => simp [intOf]; omega
        · have hin : i = n := by omega
          subst hin
          have t1 : decide ((i : Int) < (i : Int)) = false := by simp
          have x0 := xw
          have hb := wtd_bd h2 i (by omega)
          have hc := hrs_bd h2 i (by omega)
          have hne : hrs zs i ≠ 0 := by omega
          obtain ⟨xc, xf, xs⟩ := x0.cells
          go_wp2_with (first | (go_at_call 78; refine (hoursOf_any _ _ _ zs _ h2 (hrW.ext x0) hn).mono ?_; rintro e w1 ⟨rfl, x1⟩; (try clear xc xf xs); (first | replace x0 := x0.trans x1 | replace x0 := (x0.alloc _).trans x1 | replace x0 := (x0.drew).trans x1 | replace x0 := (x0.drew.alloc _).trans x1 | replace x0 := (x0.alloc _).drew.trans x1 | replace x0 := ((x0.alloc _).alloc _).trans x1 | have x0 := x1); clear x1; obtain ⟨xc, xf, xs⟩ := x0.cells) | (go_at_call 71; refine (makeRatio_any (wtd zs i) (hrs zs i) _ (by omega) (by omega)).mono ?_; rintro e w1 ⟨rfl, x1⟩; (try clear xc xf xs); (first | replace x0 := x0.trans x1 | replace x0 := (x0.alloc _).trans x1 | replace x0 := (x0.drew).trans x1 | replace x0 := (x0.drew.alloc _).trans x1 | replace x0 := (x0.alloc _).drew.trans x1 | replace x0 := ((x0.alloc _).alloc _).trans x1 | have x0 := x1); clear x1; obtain ⟨xc, xf, xs⟩ := x0.cells))
          exact bodyPost_ret (v := .tuple #[.agg #[.int .i64 (mkN (wtd zs i) (hrs zs i)), .int .i64 (mkD (wtd zs i) (hrs zs i))], .int .i64 (mkC (wtd zs i) (hrs zs i))]) (by simp [results, Try.results42, go_sem, *]) rfl ⟨rt2 e1.out e2.out e3.out, by (repeat (first | refine Ext.setCell ?_ (by simp; try omega) _ | refine Ext.alloc ?_ _)); exact hE.trans x0⟩

set_option maxHeartbeats 4000000 in
theorem specMeanTemp_any (a : Option Addr) (n cp : Nat) (zs : List (Int × Int)) (w : World) (hr : RowAt w a zs) (hn : zs.length = n) (hk : n ≤ 1048576) :
    Calls Try.prog 41 #[.slice a n cp] w fun e w' => e = .returned (.tuple #[.agg #[.int .i64 (mtN zs), .int .i64 (mtD zs)], .int .i64 (mtC zs)]) ∧ Ext w w' := by
  cases h2 : vSegs zs
  · have e1 := Lib.hid (show 0 = mtN zs by simp [mtN, h2])
    have e2 := Lib.hid (show 0 = mtD zs by simp [mtD, h2])
    have e3 := Lib.hid (show 1 = mtC zs by simp [mtC, h2])
    go_enter Try.func41, Try.ntmps41
    go_wp2_with fail
    generalize hW : (w.alloc (Obj.cells #[.int .i64 0, .int .i64 0] 39)) = W
    have hE : Ext w W := by rw [← hW]; exact (Ext.refl _).alloc _
    have hl0 : w.heap.size < W.heap.size := by rw [← hW]; simp
    have f0_0 : W.cell? ⟨w.heap.size, 0, none⟩ = some (.int .i64 0) := by rw [← hW]; simp [go_sem]
    have f0_1 : W.cell? ⟨w.heap.size, 1, none⟩ = some (.int .i64 0) := by rw [← hW]; simp [go_sem]
    have z0_0 : W.frozen? ⟨w.heap.size, 0, none⟩ = false := by rw [← hW]; simp [go_sem]
    have z0_1 : W.frozen? ⟨w.heap.size, 1, none⟩ = false := by rw [← hW]; simp [go_sem]
    clear hW
    have hrW := hr.ext hE
    have x0 := Ext.refl W
    go_wp2_with (first | (go_at_call 66; refine (l12List_any _ _ _ zs _ (hrW.ext x0) hn hk).mono ?_; rintro e w1 ⟨rfl, x1⟩; (try clear xc xf xs); (first | replace x0 := x0.trans x1 | replace x0 := (x0.alloc _).trans x1 | replace x0 := (x0.drew).trans x1 | replace x0 := (x0.drew.alloc _).trans x1 | replace x0 := (x0.alloc _).drew.trans x1 | replace x0 := ((x0.alloc _).alloc _).trans x1 | have x0 := x1); clear x1; obtain ⟨xc, xf, xs⟩ := x0.cells))
    exact bodyPost_ret (v := .tuple #[.agg #[.int .i64 (0), .int .i64 (0)], .int .i64 (1)]) (by simp [results, Try.results41, go_sem, *]) rfl ⟨rt2 e1.out e2.out e3.out, by (repeat (first | refine Ext.setCell ?_ (by simp; try omega) _ | refine Ext.alloc ?_ _)); exact hE.trans x0⟩
  · have hlen := vSegs_len h2
    by_cases hz : n = 0
    · subst hz
      have e1 := Lib.hid (show 0 = mtN zs by simp [mtN, h2, hn])
      have e2 := Lib.hid (show 0 = mtD zs by simp [mtD, h2, hn])
      have e3 := Lib.hid (show 6 = mtC zs by simp [mtC, h2, hn])
      go_enter Try.func41, Try.ntmps41
      go_wp2_with fail
      generalize hW : (w.alloc (Obj.cells #[.int .i64 0, .int .i64 0] 39)) = W
      have hE : Ext w W := by rw [← hW]; exact (Ext.refl _).alloc _
      have hl0 : w.heap.size < W.heap.size := by rw [← hW]; simp
      have f0_0 : W.cell? ⟨w.heap.size, 0, none⟩ = some (.int .i64 0) := by rw [← hW]; simp [go_sem]
      have f0_1 : W.cell? ⟨w.heap.size, 1, none⟩ = some (.int .i64 0) := by rw [← hW]; simp [go_sem]
      have z0_0 : W.frozen? ⟨w.heap.size, 0, none⟩ = false := by rw [← hW]; simp [go_sem]
      have z0_1 : W.frozen? ⟨w.heap.size, 1, none⟩ = false := by rw [← hW]; simp [go_sem]
      clear hW
      have hrW := hr.ext hE
      have x0 := Ext.refl W
      go_wp2_with (first | (go_at_call 66; refine (l12List_any _ _ _ zs _ (hrW.ext x0) hn hk).mono ?_; rintro e w1 ⟨rfl, x1⟩; (try clear xc xf xs); (first | replace x0 := x0.trans x1 | replace x0 := (x0.alloc _).trans x1 | replace x0 := (x0.drew).trans x1 | replace x0 := (x0.drew.alloc _).trans x1 | replace x0 := (x0.alloc _).drew.trans x1 | replace x0 := ((x0.alloc _).alloc _).trans x1 | have x0 := x1); clear x1; obtain ⟨xc, xf, xs⟩ := x0.cells))
      exact bodyPost_ret (v := .tuple #[.agg #[.int .i64 (0), .int .i64 (0)], .int .i64 (6)]) (by simp [results, Try.results41, go_sem, *]) rfl ⟨rt2 e1.out e2.out e3.out, by (repeat (first | refine Ext.setCell ?_ (by simp; try omega) _ | refine Ext.alloc ?_ _)); exact hE.trans x0⟩
    · have e1 := Lib.hid (show mkN (wtd zs n) (hrs zs n) = mtN zs by simp [mtN, h2, hn, hz])
      have e2 := Lib.hid (show mkD (wtd zs n) (hrs zs n) = mtD zs by simp [mtD, h2, hn, hz])
      have e3 := Lib.hid (show mkC (wtd zs n) (hrs zs n) = mtC zs by simp [mtC, h2, hn, hz])
      go_enter Try.func41, Try.ntmps41
      go_wp2_with fail
      generalize hW : (w.alloc (Obj.cells #[.int .i64 0, .int .i64 0] 39)) = W
      have hE : Ext w W := by rw [← hW]; exact (Ext.refl _).alloc _
      have hl0 : w.heap.size < W.heap.size := by rw [← hW]; simp
      have f0_0 : W.cell? ⟨w.heap.size, 0, none⟩ = some (.int .i64 0) := by rw [← hW]; simp [go_sem]
      have f0_1 : W.cell? ⟨w.heap.size, 1, none⟩ = some (.int .i64 0) := by rw [← hW]; simp [go_sem]
      have z0_0 : W.frozen? ⟨w.heap.size, 0, none⟩ = false := by rw [← hW]; simp [go_sem]
      have z0_1 : W.frozen? ⟨w.heap.size, 1, none⟩ = false := by rw [← hW]; simp [go_sem]
      clear hW
      have hrW := hr.ext hE
      have x0 := Ext.refl W
      go_wp2_with (first | (go_at_call 66; refine (l12List_any _ _ _ zs _ (hrW.ext x0) hn hk).mono ?_; rintro e w1 ⟨rfl, x1⟩; (try clear xc xf xs); (first | replace x0 := x0.trans x1 | replace x0 := (x0.alloc _).trans x1 | replace x0 := (x0.drew).trans x1 | replace x0 := (x0.drew.alloc _).trans x1 | replace x0 := (x0.alloc _).drew.trans x1 | replace x0 := ((x0.alloc _).alloc _).trans x1 | have x0 := x1); clear x1; obtain ⟨xc, xf, xs⟩ := x0.cells))
      go_loopw [4, 5] (fun s k wr => ∃ i : Nat, k = .int .i64 i ∧ i ≤ n ∧ s = .int .i64 (wtd zs i) ∧ Ext W wr) (fun _ k _ => n - (intOf k).toNat)
      case atStart => exact ⟨0, rfl, Nat.zero_le _, rfl, x0⟩
      case round =>
        clear x0 xc xf xs
        obtain ⟨i, rfl, hi, rfl, xw⟩ := hrel
        by_cases h0 : i < n
        · obtain ⟨bb, off, rfl, hbb, x, y, ex, ey, c0, c1⟩ := (hrW.ext xw).look (j := i) (by omega)
          obtain ⟨hx, hy⟩ := vSegs_at h2 (j := i) (by omega)
          have hb := wtd_bd h2 i (by omega)
          have hst := Lib.hid (show wtd zs (i + 1) = wtd zs i + x * y by rw [← ex.out, ← ey.out]; rfl)
          rw [ex.out] at hx
          rw [ey.out] at hy
          have hp := mul_abs (x := x) (y := y) (X := 240) (Y := 600) (by omega) (by omega)
          generalize hS : wtd zs i = S at *
          have t1 : decide ((i : Int) < (n : Int)) = true := by simp; omega
          have hne : wr.heap.size ≠ bb := by omega
          have q1 : IntKind.i64.wrap (x * y) = x * y := IntWalk.i64_in _ (by omega)
          have q2 : IntKind.i64.wrap (S + x * y) = S + x * y := IntWalk.i64_in _ (by omega)
          clear ex ey hr hrW hS
          go_wp2_with fail
          go_quiet (fail)
          go_wp2_with fail
          go_roundw
          case rel => exact ⟨i + 1, by go_num, by omega, by rw [hst.out], xw.drewN _⟩
          case measure => simp [intOf]; omega
        · have hin : i = n := by omega
          subst hin
          have t1 : decide ((i : Int) < (i : Int)) = false := by simp
          have x0 := xw
          have hb := wtd_bd h2 i (by omega)
          have hc := hrs_bd h2 i (by omega)
          have hne : hrs zs i ≠ 0 := by omega
          obtain ⟨xc, xf, xs⟩ := x0.cells
          go_wp2_with (first | (go_at_call 77; refine (l12Hours_any _ _ _ zs _ h2 (hrW.ext x0) hn).mono ?_; rintro e w1 ⟨rfl, x1⟩; (try clear xc xf xs); (first | replace x0 := x0.trans x1 | replace x0 := (x0.alloc _).trans x1 | replace x0 := (x0.drew).trans x1 | replace x0 := (x0.drew.alloc _).trans x1 | replace x0 := (x0.alloc _).drew.trans x1 | replace x0 := ((x0.alloc _).alloc _).trans x1 | have x0 := x1); clear x1; obtain ⟨xc, xf, xs⟩ := x0.cells) | (go_at_call 70; refine (l02Make_any (wtd zs i) (hrs zs i) _ (by omega) (by omega) hne).mono ?_; rintro e w1 ⟨rfl, x1⟩; (try clear xc xf xs); (first | replace x0 := x0.trans x1 | replace x0 := (x0.alloc _).trans x1 | replace x0 := (x0.drew).trans x1 | replace x0 := (x0.drew.alloc _).trans x1 | replace x0 := (x0.alloc _).drew.trans x1 | replace x0 := ((x0.alloc _).alloc _).trans x1 | have x0 := x1); clear x1; obtain ⟨xc, xf, xs⟩ := x0.cells) | (go_at_call 69; refine (l02Code_any (wtd zs i) (hrs zs i) _ hne).mono ?_; rintro e w1 ⟨rfl, x1⟩; (try clear xc xf xs); (first | replace x0 := x0.trans x1 | replace x0 := (x0.alloc _).trans x1 | replace x0 := (x0.drew).trans x1 | replace x0 := (x0.drew.alloc _).trans x1 | replace x0 := (x0.alloc _).drew.trans x1 | replace x0 := ((x0.alloc _).alloc _).trans x1 | have x0 := x1); clear x1; obtain ⟨xc, xf, xs⟩ := x0.cells))
          exact bodyPost_ret (v := .tuple #[.agg #[.int .i64 (mkN (wtd zs i) (hrs zs i)), .int .i64 (mkD (wtd zs i) (hrs zs i))], .int .i64 (mkC (wtd zs i) (hrs zs i))]) (by simp [results, Try.results41, go_sem, *]) rfl ⟨rt2 e1.out e2.out e3.out, by (repeat (first | refine Ext.setCell ?_ (by simp; try omega) _ | refine Ext.alloc ?_ _)); exact hE.trans x0⟩

end Go.Proofs.Ytiodlbgfgeimoaa
