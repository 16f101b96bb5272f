/-
  Springs: the running time and the best stopwork.
-/
import Derived.Test.YtgkpganbepbjnaaSpr
import Derived.Deep.DeepCutAuto
namespace Go.Proofs.Ytgkpganbepbjnaa
open Go.RowKit
set_option linter.unusedSimpArgs false
set_option linter.unusedVariables false

set_option maxRecDepth 100000 in
set_option maxHeartbeats 8000000 in
theorem implRunningTime_any (a : Option Addr) (n c : Nat) (zs : List (Int × Int)) (f q : Int) (w : World) (hr : RowAt w a zs) (hn : zs.length = n) (hm : n ≤ 1048576) :
    Calls Try.prog 42 #[.agg #[.slice a n c], .int .i64 f, .int .i64 q] w fun e w' => e = .returned (.tuple #[.int .i64 (rnR zs f q), .int .i64 (rnCd zs f q)]) ∧ Ext w w' := by
  cases hv0 : vSpr zs
  · have e2 := Lib.hid (show 1 = rnCd zs f q by simp [rnCd, hv0])
    have e1 := Lib.hid (show 0 = rnR zs f q by rw [rnR, ← e2.out]; rfl)
    go_enter Try.func42, Try.ntmps42
    go_wp2_with fail
    generalize hW : (w.alloc (Obj.cells #[.slice a n c] 38)) = W
    have hE : Ext w W := by rw [← hW]; exact (Ext.refl _).alloc _
    have hlw : w.heap.size < W.heap.size := by rw [← hW]; simp
    have f0 : W.cell? ⟨w.heap.size, 0, none⟩ = some (.slice a n c) := by rw [← hW]; simp [go_sem]
    clear hW
    have hrW := hr.ext hE
    have x0 := Ext.refl W
    go_wp2_with (first | (go_at_call 22; refine (implValidSpring_any _ _ _ zs _ (by first | exact hrW.ext x0 | exact hrW.ext x0.drew | exact hrW.ext (x0.drewN _)) hn hm).mono ?_; rintro e w1 ⟨rfl, x1⟩; (try clear xc xf xs); (first | replace x0 := x0.trans x1 | replace x0 := (x0.alloc _).trans x1 | replace x0 := (x0.drew).trans x1 | replace x0 := (x0.drew.alloc _).trans x1 | replace x0 := (x0.alloc _).drew.trans x1 | replace x0 := ((x0.alloc _).alloc _).trans x1 | have x0 := x1); clear x1; obtain ⟨xc, xf, xs⟩ := x0.cells))
    go_ret2
    exact ⟨ret2 e1.out e2.out, hE.trans x0⟩
  have hn1 : 1 ≤ n := by have := vSpr_n hv0; omega
  have hv := Lib.hid hv0
  cases h1 : posn zs f
  · have e2 := Lib.hid (show 2 = rnCd zs f q by simp [rnCd, hv0, h1])
    have e1 := Lib.hid (show 0 = rnR zs f q by rw [rnR, ← e2.out]; rfl)
    go_enter Try.func42, Try.ntmps42
    go_wp2_with fail
    generalize hW : (w.alloc (Obj.cells #[.slice a n c] 38)) = W
    have hE : Ext w W := by rw [← hW]; exact (Ext.refl _).alloc _
    have hlw : w.heap.size < W.heap.size := by rw [← hW]; simp
    have f0 : W.cell? ⟨w.heap.size, 0, none⟩ = some (.slice a n c) := by rw [← hW]; simp [go_sem]
    clear hW
    have hrW := hr.ext hE
    have x0 := Ext.refl W
    go_wp2_with (first | (go_at_call 22; refine (implValidSpring_any _ _ _ zs _ (by first | exact hrW.ext x0 | exact hrW.ext x0.drew | exact hrW.ext (x0.drewN _)) hn hm).mono ?_; rintro e w1 ⟨rfl, x1⟩; (try clear xc xf xs); (first | replace x0 := x0.trans x1 | replace x0 := (x0.alloc _).trans x1 | replace x0 := (x0.drew).trans x1 | replace x0 := (x0.drew.alloc _).trans x1 | replace x0 := (x0.alloc _).drew.trans x1 | replace x0 := ((x0.alloc _).alloc _).trans x1 | have x0 := x1); clear x1; obtain ⟨xc, xf, xs⟩ := x0.cells) | (go_at_call 74; refine (implposn_any _ _ _ zs _ _ (by first | exact hrW.ext x0 | exact hrW.ext x0.drew | exact hrW.ext (x0.drewN _)) hn hn1 hm).mono ?_; rintro e w1 ⟨rfl, x1⟩; (try clear xc xf xs); (first | replace x0 := x0.trans x1 | replace x0 := (x0.alloc _).trans x1 | replace x0 := (x0.drew).trans x1 | replace x0 := (x0.drew.alloc _).trans x1 | replace x0 := (x0.alloc _).drew.trans x1 | replace x0 := ((x0.alloc _).alloc _).trans x1 | have x0 := x1); clear x1; obtain ⟨xc, xf, xs⟩ := x0.cells) | (go_at_call 62; refine (isPull_any _ _).mono ?_; rintro e w1 ⟨rfl, rfl⟩))
    go_ret2
    exact ⟨ret2 e1.out e2.out, hE.trans x0⟩
  cases h2 : inB q 0 1000000
  · have e2 := Lib.hid (show 2 = rnCd zs f q by simp [rnCd, hv0, h1, h2])
    have e1 := Lib.hid (show 0 = rnR zs f q by rw [rnR, ← e2.out]; rfl)
    go_enter Try.func42, Try.ntmps42
    go_wp2_with fail
    generalize hW : (w.alloc (Obj.cells #[.slice a n c] 38)) = W
    have hE : Ext w W := by rw [← hW]; exact (Ext.refl _).alloc _
    have hlw : w.heap.size < W.heap.size := by rw [← hW]; simp
    have f0 : W.cell? ⟨w.heap.size, 0, none⟩ = some (.slice a n c) := by rw [← hW]; simp [go_sem]
    clear hW
    have hrW := hr.ext hE
    have x0 := Ext.refl W
    go_wp2_with (first | (go_at_call 22; refine (implValidSpring_any _ _ _ zs _ (by first | exact hrW.ext x0 | exact hrW.ext x0.drew | exact hrW.ext (x0.drewN _)) hn hm).mono ?_; rintro e w1 ⟨rfl, x1⟩; (try clear xc xf xs); (first | replace x0 := x0.trans x1 | replace x0 := (x0.alloc _).trans x1 | replace x0 := (x0.drew).trans x1 | replace x0 := (x0.drew.alloc _).trans x1 | replace x0 := (x0.alloc _).drew.trans x1 | replace x0 := ((x0.alloc _).alloc _).trans x1 | have x0 := x1); clear x1; obtain ⟨xc, xf, xs⟩ := x0.cells) | (go_at_call 74; refine (implposn_any _ _ _ zs _ _ (by first | exact hrW.ext x0 | exact hrW.ext x0.drew | exact hrW.ext (x0.drewN _)) hn hn1 hm).mono ?_; rintro e w1 ⟨rfl, x1⟩; (try clear xc xf xs); (first | replace x0 := x0.trans x1 | replace x0 := (x0.alloc _).trans x1 | replace x0 := (x0.drew).trans x1 | replace x0 := (x0.drew.alloc _).trans x1 | replace x0 := (x0.alloc _).drew.trans x1 | replace x0 := ((x0.alloc _).alloc _).trans x1 | have x0 := x1); clear x1; obtain ⟨xc, xf, xs⟩ := x0.cells) | (go_at_call 62; refine (isPull_any _ _).mono ?_; rintro e w1 ⟨rfl, rfl⟩))
    go_ret2
    exact ⟨ret2 e1.out e2.out, hE.trans x0⟩
  have ph := Lib.hid h1
  have hA := Lib.hid (rfl : pl zs f = pl zs f)
  generalize hAA : pl zs f = A at hA
  replace hAA := Lib.hid hAA
  clear hA
  by_cases h3 : A < q
  · have e2 := Lib.hid (show 3 = rnCd zs f q by simp [rnCd, hv0, h1, h2, hAA.out, h3])
    have e1 := Lib.hid (show 0 = rnR zs f q by rw [rnR, ← e2.out]; rfl)
    go_enter Try.func42, Try.ntmps42
    go_wp2_with fail
    generalize hW : (w.alloc (Obj.cells #[.slice a n c] 38)) = W
    have hE : Ext w W := by rw [← hW]; exact (Ext.refl _).alloc _
    have hlw : w.heap.size < W.heap.size := by rw [← hW]; simp
    have f0 : W.cell? ⟨w.heap.size, 0, none⟩ = some (.slice a n c) := by rw [← hW]; simp [go_sem]
    clear hW
    have hrW := hr.ext hE
    have x0 := Ext.refl W
    go_wp2_with (first | (go_at_call 22; refine (implValidSpring_any _ _ _ zs _ (by first | exact hrW.ext x0 | exact hrW.ext x0.drew | exact hrW.ext (x0.drewN _)) hn hm).mono ?_; rintro e w1 ⟨rfl, x1⟩; (try clear xc xf xs); (first | replace x0 := x0.trans x1 | replace x0 := (x0.alloc _).trans x1 | replace x0 := (x0.drew).trans x1 | replace x0 := (x0.drew.alloc _).trans x1 | replace x0 := (x0.alloc _).drew.trans x1 | replace x0 := ((x0.alloc _).alloc _).trans x1 | have x0 := x1); clear x1; obtain ⟨xc, xf, xs⟩ := x0.cells) | (go_at_call 74; refine (implposn_any _ _ _ zs _ _ (by first | exact hrW.ext x0 | exact hrW.ext x0.drew | exact hrW.ext (x0.drewN _)) hn hn1 hm).mono ?_; rintro e w1 ⟨rfl, x1⟩; (try clear xc xf xs); (first | replace x0 := x0.trans x1 | replace x0 := (x0.alloc _).trans x1 | replace x0 := (x0.drew).trans x1 | replace x0 := (x0.drew.alloc _).trans x1 | replace x0 := (x0.alloc _).drew.trans x1 | replace x0 := ((x0.alloc _).alloc _).trans x1 | have x0 := x1); clear x1; obtain ⟨xc, xf, xs⟩ := x0.cells) | (go_at_call 62; refine (isPull_any _ _).mono ?_; rintro e w1 ⟨rfl, rfl⟩) | (go_at_call 75; refine (implpullAt_any _ _ _ zs _ _ (by first | exact hrW.ext x0 | exact hrW.ext x0.drew | exact hrW.ext (x0.drewN _)) hn hv.out ph.out).mono ?_; rintro e w1 ⟨rfl, x1⟩; rw [hAA.out]; (try clear xc xf xs); (first | replace x0 := x0.trans x1 | replace x0 := (x0.alloc _).trans x1 | replace x0 := (x0.drew).trans x1 | replace x0 := (x0.drew.alloc _).trans x1 | replace x0 := (x0.alloc _).drew.trans x1 | replace x0 := ((x0.alloc _).alloc _).trans x1 | have x0 := x1); clear x1; obtain ⟨xc, xf, xs⟩ := x0.cells))
    go_ret2
    exact ⟨ret2 e1.out e2.out, hE.trans x0⟩
  have e2 := Lib.hid (show 0 = rnCd zs f q by simp [rnCd, hv0, h1, h2, hAA.out, h3])
  have e1 := Lib.hid (show rtN zs q (f - fst1 zs).toNat f = rnR zs f q by rw [rnR, if_pos e2.out.symm])
  have hfb := posn_bd hv0 h1
  have hends := ends_bd hv0
  have hq := inB_iff.1 h2
  have hff := inB_iff.1 h1
  go_enter Try.func42, Try.ntmps42
  go_wp2_with fail
  generalize hW : (w.alloc (Obj.cells #[.slice a n c] 38)) = W
  have hE : Ext w W := by rw [← hW]; exact (Ext.refl _).alloc _
  have hlw : w.heap.size < W.heap.size := by rw [← hW]; simp
  have f0 : W.cell? ⟨w.heap.size, 0, none⟩ = some (.slice a n c) := by rw [← hW]; simp [go_sem]
  clear hW
  have hrW := hr.ext hE
  have x0 := Ext.refl W
  go_wp2_with (first | (go_at_call 22; refine (implValidSpring_any _ _ _ zs _ (by first | exact hrW.ext x0 | exact hrW.ext x0.drew | exact hrW.ext (x0.drewN _)) hn hm).mono ?_; rintro e w1 ⟨rfl, x1⟩; (try clear xc xf xs); (first | replace x0 := x0.trans x1 | replace x0 := (x0.alloc _).trans x1 | replace x0 := (x0.drew).trans x1 | replace x0 := (x0.drew.alloc _).trans x1 | replace x0 := (x0.alloc _).drew.trans x1 | replace x0 := ((x0.alloc _).alloc _).trans x1 | have x0 := x1); clear x1; obtain ⟨xc, xf, xs⟩ := x0.cells) | (go_at_call 74; refine (implposn_any _ _ _ zs _ _ (by first | exact hrW.ext x0 | exact hrW.ext x0.drew | exact hrW.ext (x0.drewN _)) hn hn1 hm).mono ?_; rintro e w1 ⟨rfl, x1⟩; (try clear xc xf xs); (first | replace x0 := x0.trans x1 | replace x0 := (x0.alloc _).trans x1 | replace x0 := (x0.drew).trans x1 | replace x0 := (x0.drew.alloc _).trans x1 | replace x0 := (x0.alloc _).drew.trans x1 | replace x0 := ((x0.alloc _).alloc _).trans x1 | have x0 := x1); clear x1; obtain ⟨xc, xf, xs⟩ := x0.cells) | (go_at_call 62; refine (isPull_any _ _).mono ?_; rintro e w1 ⟨rfl, rfl⟩) | (go_at_call 75; refine (implpullAt_any _ _ _ zs _ _ (by first | exact hrW.ext x0 | exact hrW.ext x0.drew | exact hrW.ext (x0.drewN _)) hn hv.out ph.out).mono ?_; rintro e w1 ⟨rfl, x1⟩; rw [hAA.out]; (try clear xc xf xs); (first | replace x0 := x0.trans x1 | replace x0 := (x0.alloc _).trans x1 | replace x0 := (x0.drew).trans x1 | replace x0 := (x0.drew.alloc _).trans x1 | replace x0 := (x0.alloc _).drew.trans x1 | replace x0 := ((x0.alloc _).alloc _).trans x1 | have x0 := x1); clear x1; obtain ⟨xc, xf, xs⟩ := x0.cells))
  go_loopw [8] (fun nn wr => ∃ d : Nat, nn = .int .i64 d ∧ fst1 zs ≤ f - d ∧ Ext W wr ∧ Hid (rtN zs q (f - fst1 zs).toNat f = d + rtN zs q (f - d - fst1 zs).toNat (f - d))) (fun nn _ => 2001 - (intOf nn).toNat)
  case atStart => exact ⟨0, rfl, by simp; omega, x0, Lib.hid (by simp)⟩
  case round =>
    clear x0 h1 h2 h3 hv0; (try clear xc xf xs)
    obtain ⟨d, rfl, hd, hXW, hs⟩ := hrel
    have g0 := (hXW.cells.1 _ _ hlw).trans f0
    have hl1 := Nat.lt_of_lt_of_le hlw hXW.size
    replace hE := hE.trans hXW
    replace hrW := hrW.ext hXW
    have x0 := Ext.refl wr
    have q1 : IntKind.i64.wrap (f - (d : Int)) = f - (d : Int) := IntWalk.i64_in _ (by omega)
    have q2 : IntKind.i64.wrap (f - (d : Int) - 1) = f - (d : Int) - 1 := IntWalk.i64_in _ (by omega)
    have stop : (posn zs (f - d - 1) && decide (q ≤ pl zs (f - d - 1))) = false → (d : Int) = rnR zs f q := fun h => by rw [← e1.out, hs.out, rtN_stop _ h]; omega
    have go : posn zs (f - d - 1) = true → q ≤ pl zs (f - d - 1) → rtN zs q (f - fst1 zs).toNat f = ((d + 1 : Nat) : Int) + rtN zs q (f - (d + 1 : Nat) - fst1 zs).toNat (f - (d + 1 : Nat)) := fun ha hb => by
      have hc := (inB_iff.1 ha).1
      rw [hs.out, show (f - (d : Int) - fst1 zs).toNat = (f - (d + 1 : Nat) - fst1 zs).toNat + 1 by omega, rtN_go _ ha hb, show f - (d : Int) - 1 = f - ((d + 1 : Nat) : Int) by omega]
      omega
    have inn : ∀ hp : posn zs (f - d - 1) = true, fst1 zs ≤ f - (d + 1 : Nat) := fun hp => by have := (inB_iff.1 hp).1; omega
    replace stop := Lib.hid stop
    replace go := Lib.hid go
    replace inn := Lib.hid inn
    cases hp : posn zs (f - d - 1)
    · have e3 := Lib.hid (stop.out (by rw [hp]; rfl))
      clear stop go inn
      go_wp2_with (first | (go_at_call 74; refine (implposn_any _ _ _ zs _ _ (by first | exact hrW.ext x0 | exact hrW.ext x0.drew | exact hrW.ext (x0.drewN _)) hn hn1 hm).mono ?_; rintro e w1 ⟨rfl, x1⟩; (try clear xc xf xs); (first | replace x0 := x0.trans x1 | replace x0 := (x0.alloc _).trans x1 | replace x0 := (x0.drew).trans x1 | replace x0 := (x0.drew.alloc _).trans x1 | replace x0 := (x0.alloc _).drew.trans x1 | replace x0 := ((x0.alloc _).alloc _).trans x1 | have x0 := x1); clear x1; obtain ⟨xc, xf, xs⟩ := x0.cells))
      go_ret2
      exact ⟨ret2 e3.out e2.out, hE.trans x0⟩
    · have pp := Lib.hid hp
      have hin := inn.out hp
      obtain ⟨B, hB⟩ : ∃ B, pl zs (f - d - 1) = B := ⟨_, rfl⟩
      by_cases h4 : q ≤ B
      · have e3 := Lib.hid (go.out hp (by rw [hB]; exact h4))
        replace hB := Lib.hid hB
        clear stop go inn
        go_wp2_with (first | (go_at_call 74; refine (implposn_any _ _ _ zs _ _ (by first | exact hrW.ext x0 | exact hrW.ext x0.drew | exact hrW.ext (x0.drewN _)) hn hn1 hm).mono ?_; rintro e w1 ⟨rfl, x1⟩; (try clear xc xf xs); (first | replace x0 := x0.trans x1 | replace x0 := (x0.alloc _).trans x1 | replace x0 := (x0.drew).trans x1 | replace x0 := (x0.drew.alloc _).trans x1 | replace x0 := (x0.alloc _).drew.trans x1 | replace x0 := ((x0.alloc _).alloc _).trans x1 | have x0 := x1); clear x1; obtain ⟨xc, xf, xs⟩ := x0.cells) | (go_at_call 75; refine (implpullAt_any _ _ _ zs _ _ (by first | exact hrW.ext x0 | exact hrW.ext x0.drew | exact hrW.ext (x0.drewN _)) hn hv.out pp.out).mono ?_; rintro e w1 ⟨rfl, x1⟩; rw [hB.out]; (try clear xc xf xs); (first | replace x0 := x0.trans x1 | replace x0 := (x0.alloc _).trans x1 | replace x0 := (x0.drew).trans x1 | replace x0 := (x0.drew.alloc _).trans x1 | replace x0 := (x0.alloc _).drew.trans x1 | replace x0 := ((x0.alloc _).alloc _).trans x1 | have x0 := x1); clear x1; obtain ⟨xc, xf, xs⟩ := x0.cells))
        go_roundw
        case rel => exact ⟨d + 1, by go_num, hin, hXW.trans x0, e3⟩
        case measure => simp [intOf]; omega
      · have e3 := Lib.hid (stop.out (by rw [hB]; simp; omega))
        replace hB := Lib.hid hB
        clear stop go inn
        go_wp2_with (first | (go_at_call 74; refine (implposn_any _ _ _ zs _ _ (by first | exact hrW.ext x0 | exact hrW.ext x0.drew | exact hrW.ext (x0.drewN _)) hn hn1 hm).mono ?_; rintro e w1 ⟨rfl, x1⟩; (try clear xc xf xs); (first | replace x0 := x0.trans x1 | replace x0 := (x0.alloc _).trans x1 | replace x0 := (x0.drew).trans x1 | replace x0 := (x0.drew.alloc _).trans x1 | replace x0 := (x0.alloc _).drew.trans x1 | replace x0 := ((x0.alloc _).alloc _).trans x1 | have x0 := x1); clear x1; obtain ⟨xc, xf, xs⟩ := x0.cells) | (go_at_call 75; refine (implpullAt_any _ _ _ zs _ _ (by first | exact hrW.ext x0 | exact hrW.ext x0.drew | exact hrW.ext (x0.drewN _)) hn hv.out pp.out).mono ?_; rintro e w1 ⟨rfl, x1⟩; rw [hB.out]; (try clear xc xf xs); (first | replace x0 := x0.trans x1 | replace x0 := (x0.alloc _).trans x1 | replace x0 := (x0.drew).trans x1 | replace x0 := (x0.drew.alloc _).trans x1 | replace x0 := (x0.alloc _).drew.trans x1 | replace x0 := ((x0.alloc _).alloc _).trans x1 | have x0 := x1); clear x1; obtain ⟨xc, xf, xs⟩ := x0.cells))
        go_ret2
        exact ⟨ret2 e3.out e2.out, hE.trans x0⟩

set_option maxRecDepth 100000 in
set_option maxHeartbeats 8000000 in
theorem specRunningTime_any (a : Option Addr) (n c : Nat) (zs : List (Int × Int)) (f q : Int) (w : World) (hr : RowAt w a zs) (hn : zs.length = n) (hm : n ≤ 1048576) :
    Calls Try.prog 41 #[.agg #[.slice a n c], .int .i64 f, .int .i64 q] w fun e w' => e = .returned (.tuple #[.int .i64 (rnR zs f q), .int .i64 (rnCd zs f q)]) ∧ Ext w w' := by
  cases hv0 : vSpr zs
  · have e2 := Lib.hid (show 1 = rnCd zs f q by simp [rnCd, hv0])
    have e1 := Lib.hid (show 0 = rnR zs f q by rw [rnR, ← e2.out]; rfl)
    go_enter Try.func41, Try.ntmps41
    go_wp2_with fail
    generalize hW : (w.alloc (Obj.cells #[.slice a n c] 38)) = W
    have hE : Ext w W := by rw [← hW]; exact (Ext.refl _).alloc _
    have hlw : w.heap.size < W.heap.size := by rw [← hW]; simp
    have f0 : W.cell? ⟨w.heap.size, 0, none⟩ = some (.slice a n c) := by rw [← hW]; simp [go_sem]
    clear hW
    have hrW := hr.ext hE
    have x0 := Ext.refl W
    go_wp2_with (first | (go_at_call 60; refine (l13Ok_any _ _ _ zs _ (by first | exact hrW.ext x0 | exact hrW.ext x0.drew | exact hrW.ext (x0.drewN _)) hn hm).mono ?_; rintro e w1 ⟨rfl, x1⟩; (try clear xc xf xs); (first | replace x0 := x0.trans x1 | replace x0 := (x0.alloc _).trans x1 | replace x0 := (x0.drew).trans x1 | replace x0 := (x0.drew.alloc _).trans x1 | replace x0 := (x0.alloc _).drew.trans x1 | replace x0 := ((x0.alloc _).alloc _).trans x1 | have x0 := x1); clear x1; obtain ⟨xc, xf, xs⟩ := x0.cells))
    go_ret2
    exact ⟨ret2 e1.out e2.out, hE.trans x0⟩
  have hn1 : 1 ≤ n := by have := vSpr_n hv0; omega
  have hv := Lib.hid hv0
  cases h1 : posn zs f
  · have e2 := Lib.hid (show 2 = rnCd zs f q by simp [rnCd, hv0, h1])
    have e1 := Lib.hid (show 0 = rnR zs f q by rw [rnR, ← e2.out]; rfl)
    go_enter Try.func41, Try.ntmps41
    go_wp2_with fail
    generalize hW : (w.alloc (Obj.cells #[.slice a n c] 38)) = W
    have hE : Ext w W := by rw [← hW]; exact (Ext.refl _).alloc _
    have hlw : w.heap.size < W.heap.size := by rw [← hW]; simp
    have f0 : W.cell? ⟨w.heap.size, 0, none⟩ = some (.slice a n c) := by rw [← hW]; simp [go_sem]
    clear hW
    have hrW := hr.ext hE
    have x0 := Ext.refl W
    go_wp2_with (first | (go_at_call 60; refine (l13Ok_any _ _ _ zs _ (by first | exact hrW.ext x0 | exact hrW.ext x0.drew | exact hrW.ext (x0.drewN _)) hn hm).mono ?_; rintro e w1 ⟨rfl, x1⟩; (try clear xc xf xs); (first | replace x0 := x0.trans x1 | replace x0 := (x0.alloc _).trans x1 | replace x0 := (x0.drew).trans x1 | replace x0 := (x0.drew.alloc _).trans x1 | replace x0 := (x0.alloc _).drew.trans x1 | replace x0 := ((x0.alloc _).alloc _).trans x1 | have x0 := x1); clear x1; obtain ⟨xc, xf, xs⟩ := x0.cells) | (go_at_call 72; refine (specposn_any _ _ _ zs _ _ (by first | exact hrW.ext x0 | exact hrW.ext x0.drew | exact hrW.ext (x0.drewN _)) hn hn1 hm).mono ?_; rintro e w1 ⟨rfl, x1⟩; (try clear xc xf xs); (first | replace x0 := x0.trans x1 | replace x0 := (x0.alloc _).trans x1 | replace x0 := (x0.drew).trans x1 | replace x0 := (x0.drew.alloc _).trans x1 | replace x0 := (x0.alloc _).drew.trans x1 | replace x0 := ((x0.alloc _).alloc _).trans x1 | have x0 := x1); clear x1; obtain ⟨xc, xf, xs⟩ := x0.cells) | (go_at_call 54; refine (l00In_any _ _ _ _).mono ?_; rintro e w1 ⟨rfl, rfl⟩))
    go_ret2
    exact ⟨ret2 e1.out e2.out, hE.trans x0⟩
  cases h2 : inB q 0 1000000
  · have e2 := Lib.hid (show 2 = rnCd zs f q by simp [rnCd, hv0, h1, h2])
    have e1 := Lib.hid (show 0 = rnR zs f q by rw [rnR, ← e2.out]; rfl)
    go_enter Try.func41, Try.ntmps41
    go_wp2_with fail
    generalize hW : (w.alloc (Obj.cells #[.slice a n c] 38)) = W
    have hE : Ext w W := by rw [← hW]; exact (Ext.refl _).alloc _
    have hlw : w.heap.size < W.heap.size := by rw [← hW]; simp
    have f0 : W.cell? ⟨w.heap.size, 0, none⟩ = some (.slice a n c) := by rw [← hW]; simp [go_sem]
    clear hW
    have hrW := hr.ext hE
    have x0 := Ext.refl W
    go_wp2_with (first | (go_at_call 60; refine (l13Ok_any _ _ _ zs _ (by first | exact hrW.ext x0 | exact hrW.ext x0.drew | exact hrW.ext (x0.drewN _)) hn hm).mono ?_; rintro e w1 ⟨rfl, x1⟩; (try clear xc xf xs); (first | replace x0 := x0.trans x1 | replace x0 := (x0.alloc _).trans x1 | replace x0 := (x0.drew).trans x1 | replace x0 := (x0.drew.alloc _).trans x1 | replace x0 := (x0.alloc _).drew.trans x1 | replace x0 := ((x0.alloc _).alloc _).trans x1 | have x0 := x1); clear x1; obtain ⟨xc, xf, xs⟩ := x0.cells) | (go_at_call 72; refine (specposn_any _ _ _ zs _ _ (by first | exact hrW.ext x0 | exact hrW.ext x0.drew | exact hrW.ext (x0.drewN _)) hn hn1 hm).mono ?_; rintro e w1 ⟨rfl, x1⟩; (try clear xc xf xs); (first | replace x0 := x0.trans x1 | replace x0 := (x0.alloc _).trans x1 | replace x0 := (x0.drew).trans x1 | replace x0 := (x0.drew.alloc _).trans x1 | replace x0 := (x0.alloc _).drew.trans x1 | replace x0 := ((x0.alloc _).alloc _).trans x1 | have x0 := x1); clear x1; obtain ⟨xc, xf, xs⟩ := x0.cells) | (go_at_call 54; refine (l00In_any _ _ _ _).mono ?_; rintro e w1 ⟨rfl, rfl⟩))
    go_ret2
    exact ⟨ret2 e1.out e2.out, hE.trans x0⟩
  have ph := Lib.hid h1
  have hA := Lib.hid (rfl : pl zs f = pl zs f)
  generalize hAA : pl zs f = A at hA
  replace hAA := Lib.hid hAA
  clear hA
  by_cases h3 : A < q
  · have e2 := Lib.hid (show 3 = rnCd zs f q by simp [rnCd, hv0, h1, h2, hAA.out, h3])
    have e1 := Lib.hid (show 0 = rnR zs f q by rw [rnR, ← e2.out]; rfl)
    go_enter Try.func41, Try.ntmps41
    go_wp2_with fail
    generalize hW : (w.alloc (Obj.cells #[.slice a n c] 38)) = W
    have hE : Ext w W := by rw [← hW]; exact (Ext.refl _).alloc _
    have hlw : w.heap.size < W.heap.size := by rw [← hW]; simp
    have f0 : W.cell? ⟨w.heap.size, 0, none⟩ = some (.slice a n c) := by rw [← hW]; simp [go_sem]
    clear hW
    have hrW := hr.ext hE
    have x0 := Ext.refl W
    go_wp2_with (first | (go_at_call 60; refine (l13Ok_any _ _ _ zs _ (by first | exact hrW.ext x0 | exact hrW.ext x0.drew | exact hrW.ext (x0.drewN _)) hn hm).mono ?_; rintro e w1 ⟨rfl, x1⟩; (try clear xc xf xs); (first | replace x0 := x0.trans x1 | replace x0 := (x0.alloc _).trans x1 | replace x0 := (x0.drew).trans x1 | replace x0 := (x0.drew.alloc _).trans x1 | replace x0 := (x0.alloc _).drew.trans x1 | replace x0 := ((x0.alloc _).alloc _).trans x1 | have x0 := x1); clear x1; obtain ⟨xc, xf, xs⟩ := x0.cells) | (go_at_call 72; refine (specposn_any _ _ _ zs _ _ (by first | exact hrW.ext x0 | exact hrW.ext x0.drew | exact hrW.ext (x0.drewN _)) hn hn1 hm).mono ?_; rintro e w1 ⟨rfl, x1⟩; (try clear xc xf xs); (first | replace x0 := x0.trans x1 | replace x0 := (x0.alloc _).trans x1 | replace x0 := (x0.drew).trans x1 | replace x0 := (x0.drew.alloc _).trans x1 | replace x0 := (x0.alloc _).drew.trans x1 | replace x0 := ((x0.alloc _).alloc _).trans x1 | have x0 := x1); clear x1; obtain ⟨xc, xf, xs⟩ := x0.cells) | (go_at_call 54; refine (l00In_any _ _ _ _).mono ?_; rintro e w1 ⟨rfl, rfl⟩) | (go_at_call 73; refine (specpullAt_any _ _ _ zs _ _ (by first | exact hrW.ext x0 | exact hrW.ext x0.drew | exact hrW.ext (x0.drewN _)) hn hv.out ph.out).mono ?_; rintro e w1 ⟨rfl, x1⟩; rw [hAA.out]; (try clear xc xf xs); (first | replace x0 := x0.trans x1 | replace x0 := (x0.alloc _).trans x1 | replace x0 := (x0.drew).trans x1 | replace x0 := (x0.drew.alloc _).trans x1 | replace x0 := (x0.alloc _).drew.trans x1 | replace x0 := ((x0.alloc _).alloc _).trans x1 | have x0 := x1); clear x1; obtain ⟨xc, xf, xs⟩ := x0.cells))
    go_ret2
    exact ⟨ret2 e1.out e2.out, hE.trans x0⟩
  have e2 := Lib.hid (show 0 = rnCd zs f q by simp [rnCd, hv0, h1, h2, hAA.out, h3])
  have e1 := Lib.hid (show rtN zs q (f - fst1 zs).toNat f = rnR zs f q by rw [rnR, if_pos e2.out.symm])
  have hfb := posn_bd hv0 h1
  have hends := ends_bd hv0
  have hq := inB_iff.1 h2
  have hff := inB_iff.1 h1
  go_enter Try.func41, Try.ntmps41
  go_wp2_with fail
  generalize hW : (w.alloc (Obj.cells #[.slice a n c] 38)) = W
  have hE : Ext w W := by rw [← hW]; exact (Ext.refl _).alloc _
  have hlw : w.heap.size < W.heap.size := by rw [← hW]; simp
  have f0 : W.cell? ⟨w.heap.size, 0, none⟩ = some (.slice a n c) := by rw [← hW]; simp [go_sem]
  clear hW
  have hrW := hr.ext hE
  have x0 := Ext.refl W
  go_wp2_with (first | (go_at_call 60; refine (l13Ok_any _ _ _ zs _ (by first | exact hrW.ext x0 | exact hrW.ext x0.drew | exact hrW.ext (x0.drewN _)) hn hm).mono ?_; rintro e w1 ⟨rfl, x1⟩; (try clear xc xf xs); (first | replace x0 := x0.trans x1 | replace x0 := (x0.alloc _).trans x1 | replace x0 := (x0.drew).trans x1 | replace x0 := (x0.drew.alloc _).trans x1 | replace x0 := (x0.alloc _).drew.trans x1 | replace x0 := ((x0.alloc _).alloc _).trans x1 | have x0 := x1); clear x1; obtain ⟨xc, xf, xs⟩ := x0.cells) | (go_at_call 72; refine (specposn_any _ _ _ zs _ _ (by first | exact hrW.ext x0 | exact hrW.ext x0.drew | exact hrW.ext (x0.drewN _)) hn hn1 hm).mono ?_; rintro e w1 ⟨rfl, x1⟩; (try clear xc xf xs); (first | replace x0 := x0.trans x1 | replace x0 := (x0.alloc _).trans x1 | replace x0 := (x0.drew).trans x1 | replace x0 := (x0.drew.alloc _).trans x1 | replace x0 := (x0.alloc _).drew.trans x1 | replace x0 := ((x0.alloc _).alloc _).trans x1 | have x0 := x1); clear x1; obtain ⟨xc, xf, xs⟩ := x0.cells) | (go_at_call 54; refine (l00In_any _ _ _ _).mono ?_; rintro e w1 ⟨rfl, rfl⟩) | (go_at_call 73; refine (specpullAt_any _ _ _ zs _ _ (by first | exact hrW.ext x0 | exact hrW.ext x0.drew | exact hrW.ext (x0.drewN _)) hn hv.out ph.out).mono ?_; rintro e w1 ⟨rfl, x1⟩; rw [hAA.out]; (try clear xc xf xs); (first | replace x0 := x0.trans x1 | replace x0 := (x0.alloc _).trans x1 | replace x0 := (x0.drew).trans x1 | replace x0 := (x0.drew.alloc _).trans x1 | replace x0 := (x0.alloc _).drew.trans x1 | replace x0 := ((x0.alloc _).alloc _).trans x1 | have x0 := x1); clear x1; obtain ⟨xc, xf, xs⟩ := x0.cells))
  go_loopw [8] (fun nn wr => ∃ d : Nat, nn = .int .i64 d ∧ fst1 zs ≤ f - d ∧ Ext W wr ∧ Hid (rtN zs q (f - fst1 zs).toNat f = d + rtN zs q (f - d - fst1 zs).toNat (f - d))) (fun nn _ => 2001 - (intOf nn).toNat)
  case atStart => exact ⟨0, rfl, by simp; omega, x0, Lib.hid (by simp)⟩
  case round =>
    clear x0 h1 h2 h3 hv0; (try clear xc xf xs)
    obtain ⟨d, rfl, hd, hXW, hs⟩ := hrel
    have g0 := (hXW.cells.1 _ _ hlw).trans f0
    have hl1 := Nat.lt_of_lt_of_le hlw hXW.size
    replace hE := hE.trans hXW
    replace hrW := hrW.ext hXW
    have x0 := Ext.refl wr
    have q1 : IntKind.i64.wrap (f - (d : Int)) = f - (d : Int) := IntWalk.i64_in _ (by omega)
    have q2 : IntKind.i64.wrap (f - (d : Int) - 1) = f - (d : Int) - 1 := IntWalk.i64_in _ (by omega)
    have stop : (posn zs (f - d - 1) && decide (q ≤ pl zs (f - d - 1))) = false → (d : Int) = rnR zs f q := fun h => by rw [← e1.out, hs.out, rtN_stop _ h]; omega
    have go : posn zs (f - d - 1) = true → q ≤ pl zs (f - d - 1) → rtN zs q (f - fst1 zs).toNat f = ((d + 1 : Nat) : Int) + rtN zs q (f - (d + 1 : Nat) - fst1 zs).toNat (f - (d + 1 : Nat)) := fun ha hb => by
      have hc := (inB_iff.1 ha).1
      rw [hs.out, show (f - (d : Int) - fst1 zs).toNat = (f - (d + 1 : Nat) - fst1 zs).toNat + 1 by omega, rtN_go _ ha hb, show f - (d : Int) - 1 = f - ((d + 1 : Nat) : Int) by omega]
      omega
    have inn : ∀ hp : posn zs (f - d - 1) = true, fst1 zs ≤ f - (d + 1 : Nat) := fun hp => by have := (inB_iff.1 hp).1; omega
    replace stop := Lib.hid stop
    replace go := Lib.hid go
    replace inn := Lib.hid inn
    have hg1 := Lib.hid (show decide (fst1 zs < f - (d : Int)) = posn zs (f - d - 1) by
      have : decide (fst1 zs < f - (d : Int)) = inB (f - d - 1) (fst1 zs) (lst1 zs) := by
        rw [inB]
        apply decide_eq_decide.2
        omega
      exact this)
    cases hp : posn zs (f - d - 1)
    · have e3 := Lib.hid (stop.out (by rw [hp]; rfl))
      have t1 : ¬ fst1 zs < f - (d : Int) := by have := hg1.out; rw [hp] at this; simpa using this
      clear stop go inn hp
      go_wp2_with (first | (go_at_call 77; refine (specfirst_any _ _ _ zs _ (by first | exact hrW.ext x0 | exact hrW.ext x0.drew | exact hrW.ext (x0.drewN _)) hn hn1).mono ?_; rintro e w1 ⟨rfl, x1⟩; (try clear xc xf xs); (first | replace x0 := x0.trans x1 | replace x0 := (x0.alloc _).trans x1 | replace x0 := (x0.drew).trans x1 | replace x0 := (x0.drew.alloc _).trans x1 | replace x0 := (x0.alloc _).drew.trans x1 | replace x0 := ((x0.alloc _).alloc _).trans x1 | have x0 := x1); clear x1; obtain ⟨xc, xf, xs⟩ := x0.cells))
      go_ret2
      exact ⟨ret2 e3.out e2.out, hE.trans x0⟩
    · have pp := Lib.hid hp
      have t1 : fst1 zs < f - (d : Int) := by have := hg1.out; rw [hp] at this; simpa using this
      have hin := inn.out hp
      obtain ⟨B, hB⟩ : ∃ B, pl zs (f - d - 1) = B := ⟨_, rfl⟩
      by_cases h4 : q ≤ B
      · have e3 := Lib.hid (go.out hp (by rw [hB]; exact h4))
        replace hB := Lib.hid hB
        clear stop go inn
        go_wp2_with (first | (go_at_call 77; refine (specfirst_any _ _ _ zs _ (by first | exact hrW.ext x0 | exact hrW.ext x0.drew | exact hrW.ext (x0.drewN _)) hn hn1).mono ?_; rintro e w1 ⟨rfl, x1⟩; (try clear xc xf xs); (first | replace x0 := x0.trans x1 | replace x0 := (x0.alloc _).trans x1 | replace x0 := (x0.drew).trans x1 | replace x0 := (x0.drew.alloc _).trans x1 | replace x0 := (x0.alloc _).drew.trans x1 | replace x0 := ((x0.alloc _).alloc _).trans x1 | have x0 := x1); clear x1; obtain ⟨xc, xf, xs⟩ := x0.cells) | (go_at_call 73; refine (specpullAt_any _ _ _ zs _ _ (by first | exact hrW.ext x0 | exact hrW.ext x0.drew | exact hrW.ext (x0.drewN _)) hn hv.out pp.out).mono ?_; rintro e w1 ⟨rfl, x1⟩; rw [hB.out]; (try clear xc xf xs); (first | replace x0 := x0.trans x1 | replace x0 := (x0.alloc _).trans x1 | replace x0 := (x0.drew).trans x1 | replace x0 := (x0.drew.alloc _).trans x1 | replace x0 := (x0.alloc _).drew.trans x1 | replace x0 := ((x0.alloc _).alloc _).trans x1 | have x0 := x1); clear x1; obtain ⟨xc, xf, xs⟩ := x0.cells))
        go_roundw
        case rel => exact ⟨d + 1, by go_num, hin, hXW.trans x0, e3⟩
        case measure => simp [intOf]; omega
      · have e3 := Lib.hid (stop.out (by rw [hB]; simp; omega))
        replace hB := Lib.hid hB
        clear stop go inn
        go_wp2_with (first | (go_at_call 77; refine (specfirst_any _ _ _ zs _ (by first | exact hrW.ext x0 | exact hrW.ext x0.drew | exact hrW.ext (x0.drewN _)) hn hn1).mono ?_; rintro e w1 ⟨rfl, x1⟩; (try clear xc xf xs); (first | replace x0 := x0.trans x1 | replace x0 := (x0.alloc _).trans x1 | replace x0 := (x0.drew).trans x1 | replace x0 := (x0.drew.alloc _).trans x1 | replace x0 := (x0.alloc _).drew.trans x1 | replace x0 := ((x0.alloc _).alloc _).trans x1 | have x0 := x1); clear x1; obtain ⟨xc, xf, xs⟩ := x0.cells) | (go_at_call 73; refine (specpullAt_any _ _ _ zs _ _ (by first | exact hrW.ext x0 | exact hrW.ext x0.drew | exact hrW.ext (x0.drewN _)) hn hv.out pp.out).mono ?_; rintro e w1 ⟨rfl, x1⟩; rw [hB.out]; (try clear xc xf xs); (first | replace x0 := x0.trans x1 | replace x0 := (x0.alloc _).trans x1 | replace x0 := (x0.drew).trans x1 | replace x0 := (x0.drew.alloc _).trans x1 | replace x0 := (x0.alloc _).drew.trans x1 | replace x0 := ((x0.alloc _).alloc _).trans x1 | have x0 := x1); clear x1; obtain ⟨xc, xf, xs⟩ := x0.cells))
        go_ret2
        exact ⟨ret2 e3.out e2.out, hE.trans x0⟩

end Go.Proofs.Ytgkpganbepbjnaa
