/-
  The torque of a spring at a position: the program's and the reference's.
-/
import Derived.Test.YtgkpganbepbjnaaPullP
import Derived.Test.YtgkpganbepbjnaaHeld
import Derived.Deep.DeepCutAuto
namespace Go.Proofs.Ytgkpganbepbjnaa
open Go.RowKit
set_option linter.unusedSimpArgs false
set_option linter.unusedVariables false

set_option maxRecDepth 100000 in
set_option maxHeartbeats 8000000 in
theorem implpullAt_any (a : Option Addr) (n c : Nat) (zs : List (Int × Int)) (t : Int) (w : World) (hr : RowAt w a zs) (hn : zs.length = n) (hv : vSpr zs = true) (ht : posn zs t = true) :
    Calls Try.prog 75 #[.agg #[.slice a n c], .int .i64 t] w fun e w' => e = .returned (.int .i64 (pl zs t)) ∧ Ext w w' := by
  have hn2 := vSpr_n hv
  rw [hn] at hn2
  have htb := inB_iff.1 ht
  have hl0 := Lib.hid (show ¬ (zs.getD (n - 1) (0, 0)).1 < t by have := htb.2; rw [lst1, hn] at this; omega)
  clear htb
  replace hv := Lib.hid hv
  replace ht := Lib.hid ht
  go_enter Try.func75, Try.ntmps75
  go_wp2_with fail
  generalize hW : (w.alloc (Obj.cells #[.slice a n c] 38)) = W
  have hE : Ext w W := by rw [← hW]; exact (Ext.refl _).alloc _
  have hlw : w.heap.size < W.heap.size := by rw [← hW]; simp
  have f0 : W.cell? ⟨w.heap.size, 0, none⟩ = some (.slice a n c) := by rw [← hW]; simp [go_sem]
  clear hW
  have hrW := hr.ext hE
  clear hr
  go_loopw [5] (fun kk wr => ∃ p : Nat, kk = .int .i64 (p + 1 : Nat) ∧ p + 1 < n ∧ Ext W wr ∧ Hid (∀ j, 1 ≤ j → j < p + 1 → (zs.getD j (0, 0)).1 < t)) (fun kk _ => n - (intOf kk).toNat)
  case atStart => exact ⟨0, rfl, by omega, Ext.refl _, Lib.hid (fun j a b => by omega)⟩
  case round =>
    obtain ⟨p, rfl, hp, xw, hh⟩ := hrel
    have g0 := (xw.cells.1 _ _ hlw).trans f0
    have hl1 := Nat.lt_of_lt_of_le hlw xw.size
    obtain ⟨bb, off, rfl, hb, x, y, ex, ey, c0, c1⟩ := (hrW.ext xw).look (j := p + 1) (by omega)
    obtain ⟨bb', off', hab, hb', x', y', ex', ey', d0, d1⟩ := (hrW.ext xw).look (j := p) (by omega)
    simp at hab
    obtain ⟨rfl, rfl⟩ := hab
    have t5 : (p : Int) < (n : Int) := by omega
    have t7 : IntKind.i64.wrap (((p + 1 : Nat) : Int) - 1) = (p : Int) := by rw [IntWalk.i64_in _ (by omega)]; omega
    have t8 : p < n := by omega
    have t9 : ((p + 1 : Nat) : Int) < (n : Int) := by omega
    have hw1 := xw.size
    by_cases hx : x < t
    · have hp2 : p + 1 + 1 < n := by
        by_cases h : p + 1 + 1 < n
        · exact h
        · have := hl0.out
          rw [show n - 1 = p + 1 by omega, ex.out] at this
          omega
      have hk := Lib.hid (show ∀ j, 1 ≤ j → j < p + 1 + 1 → (zs.getD j (0, 0)).1 < t from fun j a b => by
        by_cases hj : j = p + 1
        · rw [hj, ex.out]; exact hx
        · exact hh.out j a (by omega))
      clear ex ey ex' ey' hl0 hrW hh hv ht d0 d1
      generalize hi1 : p + 1 = i at *
      replace hi1 := Lib.hid hi1
      go_wp2_with fail
      go_roundw
      case rel => exact ⟨i, by go_num, hp2, xw, hk⟩
      case measure => simp [intOf]; omega
    · have hB := bds_at hv.out ht.out (by omega) hh.out (by rw [ex.out]; exact hx)
      rw [ex.out, ey.out, ex'.out, ey'.out] at hB
      have hpl := Lib.hid (pl_at (by omega) hh.out (by rw [ex.out]; exact hx) ex'.out ey'.out ex.out ey.out)
      have hbp := hB.pl
      have e1 := Lib.hid (plB_eq (y' := y') (y := y) (t := t) hB.lt)
      have b1 := hB.a; have b2 := hB.b; have b3 := hB.c; have b4 := hB.d; have b5 := hB.lt; have b6 := hB.t; have b7 := hB.le
      have m1 := mul_bd (x := y') (y := x - t) (X := 1000000) (Y := 2000) b2 (by omega)
      have m2 := mul_bd (x := y) (y := t - x') (X := 1000000) (Y := 2000) b4 (by omega)
      have m3 := mul_bd (x := y - y') (y := t - x') (X := 1000000) (Y := 2000) (by omega) (by omega)
      clear ex ey ex' ey' hl0 hrW hh hv ht hB
      generalize hP : plB x' y' x y t = P at *
      generalize hi1 : p + 1 = i at *
      replace hi1 := Lib.hid hi1
      have hk : wr.heap.size ≠ bb := by omega
      have hk2 : wr.heap.size ≠ w.heap.size := by omega
      go_wp2_with fail
      rename World => V
      have x0 := Ext.refl V
      go_cut [6, 7] (fun s6 s7 wx => ∃ g6 g7 : Nat, s6 = .pointer (some ⟨g6, 0, none⟩) ∧ s7 = .pointer (some ⟨g7, 0, none⟩) ∧ Ext V wx ∧ wx.cell? ⟨g6, 0, none⟩ = some (.int .i64 x') ∧ wx.cell? ⟨g6, 1, none⟩ = some (.int .i64 y') ∧ wx.cell? ⟨g7, 0, none⟩ = some (.int .i64 x) ∧ wx.cell? ⟨g7, 1, none⟩ = some (.int .i64 y))
      case first =>
        go_region_held3 (fun w' => w'.cell? ⟨w.heap.size, 0, none⟩ = some (.slice (some ⟨bb, off, none⟩) n c) ∧ w'.cell? ⟨bb, off + i * 2, none⟩ = some (.int .i64 x) ∧ w'.cell? ⟨bb, off + i * 2 + 1, none⟩ = some (.int .i64 y) ∧ w'.cell? ⟨bb, off + p * 2, none⟩ = some (.int .i64 x') ∧ w'.cell? ⟨bb, off + p * 2 + 1, none⟩ = some (.int .i64 y'))
          (refine ⟨?_, ?_, ?_, ?_, ?_⟩ <;> (refine keep_ext (W := V) ?_ (by assumption) (by assumption) <;> (repeat (first | exact x0 | refine Ext.setCell ?_ (by simp; try omega) _ | refine Ext.alloc ?_ _ | refine Ext.drew ?_))))
          (fail)
        all_goals (go_wp2_with fail; go_meet; refine ⟨_, _, rfl, rfl, ?_, ?_, ?_, ?_, ?_⟩)
        all_goals first | (simp [go_sem, *]; done) | (repeat (first | exact x0 | refine Ext.setCell ?_ (by simp; try omega) _ | refine Ext.alloc ?_ _ | refine Ext.drew ?_))
      case rest =>
      obtain ⟨g6, g7, rfl, rfl, x0, p0, p1, p2, p3⟩ := hcut
      have q1 : IntKind.i64.wrap (x - t) = x - t := IntWalk.i64_in _ (by omega)
      have q2 : IntKind.i64.wrap (y' * (x - t)) = y' * (x - t) := IntWalk.i64_in _ (by omega)
      have q3 : IntKind.i64.wrap (t - x') = t - x' := IntWalk.i64_in _ (by omega)
      have q4 : IntKind.i64.wrap (y * (t - x')) = y * (t - x') := IntWalk.i64_in _ (by omega)
      have q5 : IntKind.i64.wrap (y' * (x - t) + y * (t - x')) = y' * (x - t) + y * (t - x') := IntWalk.i64_in _ (by omega)
      have q6 : IntKind.i64.wrap (x - x') = x - x' := IntWalk.i64_in _ (by omega)
      go_wp2_with (go_at_call 101; refine (nearestDiv_any _ _ _ (by omega) (by omega)).mono ?_; rintro e w1 ⟨rfl, rfl⟩; rw [e1.out])
      go_ret
      exact ⟨ret_int hpl.out.symm, (hE.trans xw).trans x0⟩

set_option maxRecDepth 100000 in
set_option maxHeartbeats 8000000 in
theorem specpullAt_any (a : Option Addr) (n c : Nat) (zs : List (Int × Int)) (t : Int) (w : World) (hr : RowAt w a zs) (hn : zs.length = n) (hv : vSpr zs = true) (ht : posn zs t = true) :
    Calls Try.prog 73 #[.agg #[.slice a n c], .int .i64 t] w fun e w' => e = .returned (.int .i64 (pl zs t)) ∧ Ext w w' := by
  have hn2 := vSpr_n hv
  rw [hn] at hn2
  have htb := inB_iff.1 ht
  have hl0 := Lib.hid (show ¬ (zs.getD (n - 1) (0, 0)).1 < t by have := htb.2; rw [lst1, hn] at this; omega)
  clear htb
  replace hv := Lib.hid hv
  replace ht := Lib.hid ht
  go_enter Try.func73, Try.ntmps73
  go_wp2_with fail
  generalize hW : (w.alloc (Obj.cells #[.slice a n c] 38)) = W
  have hE : Ext w W := by rw [← hW]; exact (Ext.refl _).alloc _
  have hlw : w.heap.size < W.heap.size := by rw [← hW]; simp
  have f0 : W.cell? ⟨w.heap.size, 0, none⟩ = some (.slice a n c) := by rw [← hW]; simp [go_sem]
  clear hW
  have hrW := hr.ext hE
  clear hr
  go_loopw [5] (fun kk wr => ∃ p : Nat, kk = .int .i64 (p + 1 : Nat) ∧ p + 1 < n ∧ Ext W wr ∧ Hid (∀ j, 1 ≤ j → j < p + 1 → (zs.getD j (0, 0)).1 < t)) (fun kk _ => n - (intOf kk).toNat)
  case atStart => exact ⟨0, rfl, by omega, Ext.refl _, Lib.hid (fun j a b => by omega)⟩
  case round =>
    obtain ⟨p, rfl, hp, xw, hh⟩ := hrel
    have g0 := (xw.cells.1 _ _ hlw).trans f0
    have hl1 := Nat.lt_of_lt_of_le hlw xw.size
    obtain ⟨bb, off, rfl, hb, x, y, ex, ey, c0, c1⟩ := (hrW.ext xw).look (j := p + 1) (by omega)
    obtain ⟨bb', off', hab, hb', x', y', ex', ey', d0, d1⟩ := (hrW.ext xw).look (j := p) (by omega)
    simp at hab
    obtain ⟨rfl, rfl⟩ := hab
    have t5 : (p : Int) < (n : Int) := by omega
    have t7 : IntKind.i64.wrap (((p + 1 : Nat) : Int) - 1) = (p : Int) := by rw [IntWalk.i64_in _ (by omega)]; omega
    have t8 : p < n := by omega
    have t9 : ((p + 1 : Nat) : Int) < (n : Int) := by omega
    have hw1 := xw.size
    by_cases hx : x < t
    · have hp2 : p + 1 + 1 < n := by
        by_cases h : p + 1 + 1 < n
        · exact h
        · have := hl0.out
          rw [show n - 1 = p + 1 by omega, ex.out] at this
          omega
      have hk := Lib.hid (show ∀ j, 1 ≤ j → j < p + 1 + 1 → (zs.getD j (0, 0)).1 < t from fun j a b => by
        by_cases hj : j = p + 1
        · rw [hj, ex.out]; exact hx
        · exact hh.out j a (by omega))
      clear ex ey ex' ey' hl0 hrW hh hv ht d0 d1
      generalize hi1 : p + 1 = i at *
      replace hi1 := Lib.hid hi1
      go_wp2_with fail
      go_roundw
      case rel => exact ⟨i, by go_num, hp2, xw, hk⟩
      case measure => simp [intOf]; omega
    · have hB := bds_at hv.out ht.out (by omega) hh.out (by rw [ex.out]; exact hx)
      rw [ex.out, ey.out, ex'.out, ey'.out] at hB
      have hpl := Lib.hid (pl_at (by omega) hh.out (by rw [ex.out]; exact hx) ex'.out ey'.out ex.out ey.out)
      have hbp := hB.pl
      have e1 := Lib.hid (plB_eq (y' := y') (y := y) (t := t) hB.lt)
      have b1 := hB.a; have b2 := hB.b; have b3 := hB.c; have b4 := hB.d; have b5 := hB.lt; have b6 := hB.t; have b7 := hB.le
      have m1 := mul_bd (x := y') (y := x - t) (X := 1000000) (Y := 2000) b2 (by omega)
      have m2 := mul_bd (x := y) (y := t - x') (X := 1000000) (Y := 2000) b4 (by omega)
      have m3 := mul_bd (x := y - y') (y := t - x') (X := 1000000) (Y := 2000) (by omega) (by omega)
      clear ex ey ex' ey' hl0 hrW hh hv ht hB
      generalize hP : plB x' y' x y t = P at *
      generalize hi1 : p + 1 = i at *
      replace hi1 := Lib.hid hi1
      have hk : wr.heap.size ≠ bb := by omega
      have hk2 : wr.heap.size ≠ w.heap.size := by omega
      have hP2 := Lib.hid (show y' + near ((y - y') * (t - x')) (x - x') = P from hP)
      go_upto_region 6 with fail
      generalize hV : World.alloc _ _ = V
      have xV : Ext wr V := by rw [← hV]; exact ((Ext.refl _).alloc _).alloc _
      obtain ⟨g6, hg6⟩ : ∃ g6, g6 = wr.heap.size := ⟨_, rfl⟩
      have p0 : V.cell? ⟨wr.heap.size, 0, none⟩ = some (.int .i64 x') := by rw [← hV]; simp [go_sem]
      have p1 : V.cell? ⟨wr.heap.size, 1, none⟩ = some (.int .i64 y') := by rw [← hV]; simp [go_sem]
      have p2 : V.cell? ⟨wr.heap.size + 1, 0, none⟩ = some (.int .i64 x) := by rw [← hV]; simp [go_sem]
      have p3 : V.cell? ⟨wr.heap.size + 1, 1, none⟩ = some (.int .i64 y) := by rw [← hV]; simp [go_sem]
      have hl6 : wr.heap.size < V.heap.size := by rw [← hV]; simp; try omega
      have hl7 : wr.heap.size + 1 < V.heap.size := by rw [← hV]; simp; try omega
      clear hV
      have q1 : IntKind.i64.wrap (y - y') = y - y' := IntWalk.i64_in _ (by omega)
      have q2 : IntKind.i64.wrap (t - x') = t - x' := IntWalk.i64_in _ (by omega)
      have q3 : IntKind.i64.wrap ((y - y') * (t - x')) = (y - y') * (t - x') := IntWalk.i64_in _ (by omega)
      have q4 : IntKind.i64.wrap (x - x') = x - x' := IntWalk.i64_in _ (by omega)
      have q5 : IntKind.i64.wrap (y' + near ((y - y') * (t - x')) (x - x')) = y' + near ((y - y') * (t - x')) (x - x') := IntWalk.i64_in _ (by rw [hP2.out]; omega)
      have x0 := Ext.refl V
      go_region_held3 (fun w' => w'.cell? ⟨wr.heap.size, 0, none⟩ = some (.int .i64 x') ∧ w'.cell? ⟨wr.heap.size, 1, none⟩ = some (.int .i64 y') ∧ w'.cell? ⟨wr.heap.size + 1, 0, none⟩ = some (.int .i64 x) ∧ w'.cell? ⟨wr.heap.size + 1, 1, none⟩ = some (.int .i64 y))
        (refine ⟨?_, ?_, ?_, ?_⟩ <;> (refine keep_ext (W := V) ?_ (by assumption) (by assumption) <;> (repeat (first | exact x0 | refine Ext.drew ?_))))
        (first | (go_at_call 100; refine (l02Near_any _ _ _ (by omega) (by omega)).mono ?_; rintro e w1 ⟨rfl, rfl⟩))
      go_wp2_with fail
      go_ret
      exact ⟨ret_int (by rw [hP2.out]; exact hpl.out.symm), ((hE.trans xw).trans xV).drew⟩

end Go.Proofs.Ytgkpganbepbjnaa
