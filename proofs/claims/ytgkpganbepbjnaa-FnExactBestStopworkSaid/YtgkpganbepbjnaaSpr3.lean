/-
  Springs: the running time and the best stopwork.
-/
import Derived.Test.YtgkpganbepbjnaaSpr2
import Derived.Deep.DeepCutAuto
namespace Go.Proofs.Ytgkpganbepbjnaa
open Go.RowKit
set_option linter.unusedSimpArgs false
set_option linter.unusedVariables false

set_option maxRecDepth 100000 in
set_option maxHeartbeats 16000000 in
theorem implBestStopwork_any (a : Option Addr) (n c : Nat) (zs : List (Int × Int)) (t : Int) (w : World) (hr : RowAt w a zs) (hn : zs.length = n) (hm : n ≤ 1048576) :
    Calls Try.prog 40 #[.agg #[.slice a n c], .int .i64 t] w fun e w' => e = .returned (.tuple #[.int .i64 (bsR zs t), .int .i64 (bsCd zs t)]) ∧ Ext w w' := by
  cases hv0 : vSpr zs
  · have e2 := Lib.hid (show 1 = bsCd zs t by simp [bsCd, hv0])
    have e1 := Lib.hid (show 0 = bsR zs t by rw [bsR, ← e2.out]; rfl)
    go_enter Try.func40, Try.ntmps40
    go_wp2_with fail
    generalize hW : (w.alloc (Obj.cells #[.slice a n c] 38)) = W
    have hE : Ext w W := by rw [← hW]; exact (Ext.refl _).alloc _
    have hlw : w.heap.size < W.heap.size := by rw [← hW]; simp
    have f0 : W.cell? ⟨w.heap.size, 0, none⟩ = some (.slice a n c) := by rw [← hW]; simp [go_sem]
    clear hW
    have hrW := hr.ext hE
    have x0 := Ext.refl W
    go_wp2_with (first | (go_at_call 22; refine (implValidSpring_any _ _ _ zs _ (by first | exact hrW.ext x0 | exact hrW.ext x0.drew | exact hrW.ext (x0.drewN _)) hn hm).mono ?_; rintro e w1 ⟨rfl, x1⟩; (try clear xc xf xs); (first | replace x0 := x0.trans x1 | replace x0 := (x0.alloc _).trans x1 | replace x0 := (x0.drew).trans x1 | replace x0 := (x0.drew.alloc _).trans x1 | replace x0 := (x0.alloc _).drew.trans x1 | replace x0 := ((x0.alloc _).alloc _).trans x1 | have x0 := x1); clear x1; obtain ⟨xc, xf, xs⟩ := x0.cells))
    go_ret2
    exact ⟨ret2 e1.out e2.out, hE.trans x0⟩
  have hn1 : 1 ≤ n := by have := vSpr_n hv0; omega
  have hends := ends_bd hv0
  have q0 : IntKind.i64.wrap (lst1 zs - fst1 zs) = lst1 zs - fst1 zs := IntWalk.i64_in _ (by omega)
  cases h2 : inB t 1 (lst1 zs - fst1 zs)
  · have e2 := Lib.hid (show 2 = bsCd zs t by simp [bsCd, hv0, h2])
    have e1 := Lib.hid (show 0 = bsR zs t by rw [bsR, ← e2.out]; rfl)
    go_enter Try.func40, Try.ntmps40
    go_wp2_with fail
    generalize hW : (w.alloc (Obj.cells #[.slice a n c] 38)) = W
    have hE : Ext w W := by rw [← hW]; exact (Ext.refl _).alloc _
    have hlw : w.heap.size < W.heap.size := by rw [← hW]; simp
    have f0 : W.cell? ⟨w.heap.size, 0, none⟩ = some (.slice a n c) := by rw [← hW]; simp [go_sem]
    clear hW
    have hrW := hr.ext hE
    have x0 := Ext.refl W
    go_upto_region 3 with (first | (go_at_call 22; refine (implValidSpring_any _ _ _ zs _ (by first | exact hrW.ext x0 | exact hrW.ext x0.drew | exact hrW.ext (x0.drewN _)) hn hm).mono ?_; rintro e w1 ⟨rfl, x1⟩; (try clear xc xf xs); (first | replace x0 := x0.trans x1 | replace x0 := (x0.alloc _).trans x1 | replace x0 := (x0.drew).trans x1 | replace x0 := (x0.drew.alloc _).trans x1 | replace x0 := (x0.alloc _).drew.trans x1 | replace x0 := ((x0.alloc _).alloc _).trans x1 | have x0 := x1); clear x1; obtain ⟨xc, xf, xs⟩ := x0.cells))
    replace f0 := (x0.cells.1 _ _ hlw).trans f0
    replace hlw := Nat.lt_of_lt_of_le hlw x0.size
    replace hrW := hrW.ext x0
    replace hE := hE.trans x0
    clear xc xf xs x0
    rename World => W
    have x0 := Ext.refl W
    go_cut [20] (fun sd wx => sd = .bool true ∧ Ext W wx)
    case first =>
      go_region_held3 (fun w' => w'.cell? ⟨w.heap.size, 0, none⟩ = some (.slice a n c))
        (refine keep_ext (W := W) ?_ (by assumption) (by assumption) <;> (repeat (first | exact x0 | refine Ext.drew ?_)))
        (first | (go_at_call 78; refine (impllast_any _ _ _ zs _ (by first | exact hrW.ext x0 | exact hrW.ext x0.drew | exact hrW.ext (x0.drewN _)) hn hn1 hm).mono ?_; rintro e w1 ⟨rfl, x1⟩; (try clear xc xf xs); (first | replace x0 := x0.trans x1 | replace x0 := (x0.alloc _).trans x1 | replace x0 := (x0.drew).trans x1 | replace x0 := (x0.drew.alloc _).trans x1 | replace x0 := (x0.alloc _).drew.trans x1 | replace x0 := ((x0.alloc _).alloc _).trans x1 | have x0 := x1); clear x1; obtain ⟨xc, xf, xs⟩ := x0.cells) | (go_at_call 79; refine (implfirst_any _ _ _ zs _ (by first | exact hrW.ext x0 | exact hrW.ext x0.drew | exact hrW.ext (x0.drewN _)) hn hn1).mono ?_; rintro e w1 ⟨rfl, x1⟩; (try clear xc xf xs); (first | replace x0 := x0.trans x1 | replace x0 := (x0.alloc _).trans x1 | replace x0 := (x0.drew).trans x1 | replace x0 := (x0.drew.alloc _).trans x1 | replace x0 := (x0.alloc _).drew.trans x1 | replace x0 := ((x0.alloc _).alloc _).trans x1 | have x0 := x1); clear x1; obtain ⟨xc, xf, xs⟩ := x0.cells) | (go_at_call 55; refine (within_any _ _ _ _).mono ?_; rintro e w1 ⟨rfl, rfl⟩))
      all_goals (go_wp2_with fail; go_meet; exact ⟨(by first | rfl | (simp [*]; done)), (by first | exact x0 | exact x0.drew)⟩)
    case rest =>
    obtain ⟨rfl, x0⟩ := hcut
    replace f0 := (x0.cells.1 _ _ hlw).trans f0
    replace hlw := Nat.lt_of_lt_of_le hlw x0.size
    replace hrW := hrW.ext x0
    replace hE := hE.trans x0
    clear x0
    rename World => W
    have x0 := Ext.refl W

    go_wp2_with fail
    go_ret2
    exact ⟨ret2 e1.out e2.out, hE.trans x0⟩
  have e2 := Lib.hid (show 0 = bsCd zs t by simp [bsCd, hv0, h2])
  have e1 := Lib.hid (show (bsP zs t (lst1 zs - fst1 zs - t).toNat).1 = bsR zs t by rw [bsR, if_pos e2.out.symm])
  have hv := Lib.hid hv0
  have ht := inB_iff.1 h2
  go_enter Try.func40, Try.ntmps40
  go_wp2_with fail
  generalize hW : (w.alloc (Obj.cells #[.slice a n c] 38)) = W
  have hE : Ext w W := by rw [← hW]; exact (Ext.refl _).alloc _
  have hlw : w.heap.size < W.heap.size := by rw [← hW]; simp
  have f0 : W.cell? ⟨w.heap.size, 0, none⟩ = some (.slice a n c) := by rw [← hW]; simp [go_sem]
  clear hW
  have hrW := hr.ext hE
  have x0 := Ext.refl W
  go_upto_region 3 with (first | (go_at_call 22; refine (implValidSpring_any _ _ _ zs _ (by first | exact hrW.ext x0 | exact hrW.ext x0.drew | exact hrW.ext (x0.drewN _)) hn hm).mono ?_; rintro e w1 ⟨rfl, x1⟩; (try clear xc xf xs); (first | replace x0 := x0.trans x1 | replace x0 := (x0.alloc _).trans x1 | replace x0 := (x0.drew).trans x1 | replace x0 := (x0.drew.alloc _).trans x1 | replace x0 := (x0.alloc _).drew.trans x1 | replace x0 := ((x0.alloc _).alloc _).trans x1 | have x0 := x1); clear x1; obtain ⟨xc, xf, xs⟩ := x0.cells))
  replace f0 := (x0.cells.1 _ _ hlw).trans f0
  replace hlw := Nat.lt_of_lt_of_le hlw x0.size
  replace hrW := hrW.ext x0
  replace hE := hE.trans x0
  clear xc xf xs x0
  rename World => W
  have x0 := Ext.refl W
  go_cut [20] (fun sd wx => sd = .bool false ∧ Ext W wx)
  case first =>
    go_region_held3 (fun w' => w'.cell? ⟨w.heap.size, 0, none⟩ = some (.slice a n c))
      (refine keep_ext (W := W) ?_ (by assumption) (by assumption) <;> (repeat (first | exact x0 | refine Ext.drew ?_)))
      (first | (go_at_call 78; refine (impllast_any _ _ _ zs _ (by first | exact hrW.ext x0 | exact hrW.ext x0.drew | exact hrW.ext (x0.drewN _)) hn hn1 hm).mono ?_; rintro e w1 ⟨rfl, x1⟩; (try clear xc xf xs); (first | replace x0 := x0.trans x1 | replace x0 := (x0.alloc _).trans x1 | replace x0 := (x0.drew).trans x1 | replace x0 := (x0.drew.alloc _).trans x1 | replace x0 := (x0.alloc _).drew.trans x1 | replace x0 := ((x0.alloc _).alloc _).trans x1 | have x0 := x1); clear x1; obtain ⟨xc, xf, xs⟩ := x0.cells) | (go_at_call 79; refine (implfirst_any _ _ _ zs _ (by first | exact hrW.ext x0 | exact hrW.ext x0.drew | exact hrW.ext (x0.drewN _)) hn hn1).mono ?_; rintro e w1 ⟨rfl, x1⟩; (try clear xc xf xs); (first | replace x0 := x0.trans x1 | replace x0 := (x0.alloc _).trans x1 | replace x0 := (x0.drew).trans x1 | replace x0 := (x0.drew.alloc _).trans x1 | replace x0 := (x0.alloc _).drew.trans x1 | replace x0 := ((x0.alloc _).alloc _).trans x1 | have x0 := x1); clear x1; obtain ⟨xc, xf, xs⟩ := x0.cells) | (go_at_call 55; refine (within_any _ _ _ _).mono ?_; rintro e w1 ⟨rfl, rfl⟩))
    all_goals (go_wp2_with fail; go_meet; exact ⟨(by first | rfl | (simp [*]; done)), (by first | exact x0 | exact x0.drew)⟩)
  case rest =>
  obtain ⟨rfl, x0⟩ := hcut
  replace f0 := (x0.cells.1 _ _ hlw).trans f0
  replace hlw := Nat.lt_of_lt_of_le hlw x0.size
  replace hrW := hrW.ext x0
  replace hE := hE.trans x0
  clear x0
  rename World => W
  have x0 := Ext.refl W

  go_wp2_with (first | (go_at_call 79; refine (implfirst_any _ _ _ zs _ (by first | exact hrW.ext x0 | exact hrW.ext x0.drew | exact hrW.ext (x0.drewN _)) hn hn1).mono ?_; rintro e w1 ⟨rfl, x1⟩; (try clear xc xf xs); (first | replace x0 := x0.trans x1 | replace x0 := (x0.alloc _).trans x1 | replace x0 := (x0.drew).trans x1 | replace x0 := (x0.drew.alloc _).trans x1 | replace x0 := (x0.alloc _).drew.trans x1 | replace x0 := ((x0.alloc _).alloc _).trans x1 | have x0 := x1); clear x1; obtain ⟨xc, xf, xs⟩ := x0.cells))
  go_loopw [6, 7, 8] (fun sb sl st wr => ∃ j : Nat, st = .int .i64 (fst1 zs + (j : Int)) ∧ fst1 zs + j + t ≤ lst1 zs + 1 ∧ Ext W wr ∧ ((j = 0 ∧ sb = .int .i64 0 ∧ sl = .int .i64 (-1)) ∨ (∃ i, j = i + 1 ∧ sb = .int .i64 (bsP zs t i).1 ∧ sl = .int .i64 (bsP zs t i).2))) (fun _ _ st _ => (lst1 zs + 2 - intOf st).toNat)
  case atStart => exact ⟨0, by simp, by omega, x0, .inl ⟨rfl, rfl, rfl⟩⟩
  case round =>
    clear x0 h2 hv0; (try clear xc xf xs)
    obtain ⟨j, rfl, hj, hXW, hcase⟩ := hrel
    have g0 := (hXW.cells.1 _ _ hlw).trans f0
    have hl1 := Nat.lt_of_lt_of_le hlw hXW.size
    replace hE := hE.trans hXW
    replace hrW := hrW.ext hXW
    have x0 := Ext.refl wr

    by_cases hlt : fst1 zs + j + t ≤ lst1 zs
    · obtain ⟨x, hx⟩ : ∃ x, fst1 zs + (j : Int) = x := ⟨_, rfl⟩
      rw [hx] at hlt
      have hx0 : fst1 zs ≤ x := by omega
      have hxj := Lib.hid (show fst1 zs + ((j + 1 : Nat) : Int) = x + 1 by omega)
      rw [hx]
      replace hx := Lib.hid hx
      have p1 := Lib.hid (posn_in (zs := zs) (t := x) (by omega) (by omega))
      have p2 := Lib.hid (posn_in (zs := zs) (t := x + t) (by omega) (by omega))
      have b1 := pl_bd hv.out p1.out
      have b2 := pl_bd hv.out p2.out
      obtain ⟨A, hA⟩ : ∃ A, pl zs (x + t) = A := ⟨_, rfl⟩
      obtain ⟨B, hB⟩ : ∃ B, pl zs (x) = B := ⟨_, rfl⟩
      rw [hA] at b2
      rw [hB] at b1
      have hD := Lib.hid (show A - B = dW zs t (x) by rw [dW, hA, hB])
      have hDb := dW_bd hv.out (by omega) p1.out p2.out
      replace hA := Lib.hid hA
      replace hB := Lib.hid hB
      have q7 : IntKind.i64.wrap (A - B) = A - B := IntWalk.i64_in _ (by omega)
      have q8 : IntKind.i64.wrap (x + t) = x + t := IntWalk.i64_in _ (by omega)

      have q9 : IntKind.i64.wrap (x + 1) = x + 1 := IntWalk.i64_in _ (by omega)
      go_upto_region 9 with (first | (go_at_call 78; refine (impllast_any _ _ _ zs _ (by first | exact hrW.ext x0 | exact hrW.ext x0.drew | exact hrW.ext (x0.drewN _)) hn hn1 hm).mono ?_; rintro e w1 ⟨rfl, x1⟩; (try clear xc xf xs); (first | replace x0 := x0.trans x1 | replace x0 := (x0.alloc _).trans x1 | replace x0 := (x0.drew).trans x1 | replace x0 := (x0.drew.alloc _).trans x1 | replace x0 := (x0.alloc _).drew.trans x1 | replace x0 := ((x0.alloc _).alloc _).trans x1 | have x0 := x1); clear x1; obtain ⟨xc, xf, xs⟩ := x0.cells))
      replace g0 := (x0.cells.1 _ _ hl1).trans g0
      replace hl1 := Nat.lt_of_lt_of_le hl1 x0.size
      replace hrW := hrW.ext x0
      replace hXW := hXW.trans x0
      clear xc xf xs x0
      rename World => V
      have x0 := Ext.refl V
      go_cut [9] (fun sd wx => sd = .int .i64 (dW zs t x) ∧ Ext V wx)
      case first =>
        go_region_held3 (fun w' => w'.cell? ⟨w.heap.size, 0, none⟩ = some (.slice a n c))
          (refine keep_ext (W := V) ?_ (by assumption) (by assumption) <;> (repeat (first | exact x0 | refine Ext.drew ?_)))
          (first | (go_at_call 75; refine (implpullAt_any _ _ _ zs _ _ (by first | exact hrW.ext x0 | exact hrW.ext x0.drew | exact hrW.ext (x0.drewN _)) hn hv.out (by first | exact p1.out | exact p2.out)).mono ?_; rintro e w1 ⟨rfl, x1⟩; (first | rw [hA.out] | rw [hB.out]); (try clear xc xf xs); (first | replace x0 := x0.trans x1 | replace x0 := (x0.alloc _).trans x1 | replace x0 := (x0.drew).trans x1 | replace x0 := (x0.drew.alloc _).trans x1 | replace x0 := (x0.alloc _).drew.trans x1 | replace x0 := ((x0.alloc _).alloc _).trans x1 | have x0 := x1); clear x1; obtain ⟨xc, xf, xs⟩ := x0.cells))
        all_goals (go_wp2_with fail; go_meet; exact ⟨by rw [hD.out], (by first | exact x0 | exact x0.drew)⟩)
      case rest =>
      obtain ⟨rfl, x0⟩ := hcut
      clear hA hB

      rcases hcase with ⟨rfl, rfl, rfl⟩ | ⟨i, rfl, rfl, rfl⟩
      · have hb := Lib.hid (show bsP zs t 0 = (x, dW zs t x) by rw [bsP, show fst1 zs = x by have := hx.out; simpa using this])
        generalize dW zs t x = D at *
        go_wp2_with fail
        go_roundw
        case rel => exact ⟨1, by rw [show ((1 : Nat) : Int) = ((0 + 1 : Nat) : Int) from rfl, hxj.out], by have := hxj.out; omega, hXW.trans x0, .inr ⟨0, rfl, by rw [hb.out], by rw [hb.out]⟩⟩
        case measure => have hxx := hx.out; simp at hxx; simp [intOf]; omega
      · have hb0 := bsP_bd (wd := t) hv.out (by omega) i (by have := hx.out; omega)
        by_cases hd : dW zs t x < (bsP zs t i).2
        · have hb := Lib.hid (show bsP zs t (i + 1) = (x, dW zs t x) by rw [bsP_take (by rw [hx.out]; exact hd), hx.out])
          generalize hP : bsP zs t i = P at *
          replace hP := Lib.hid hP
          generalize dW zs t x = D at *
          have h6 : ¬ P.2 < 0 := by omega
          go_wp2_with fail
          go_roundw
          case rel => exact ⟨i + 1 + 1, by rw [hxj.out], by have := hxj.out; omega, hXW.trans x0, .inr ⟨i + 1, rfl, by rw [hb.out], by rw [hb.out]⟩⟩
          case measure => simp [intOf]; omega
        · have hb := Lib.hid (show bsP zs t (i + 1) = bsP zs t i from bsP_keep (by rw [hx.out]; exact hd))
          generalize hP : bsP zs t i = P at *
          replace hP := Lib.hid hP
          generalize dW zs t x = D at *
          have h6 : ¬ P.2 < 0 := by omega
          go_wp2_with fail
          go_roundw
          case rel => exact ⟨i + 1 + 1, by rw [hxj.out], by have := hxj.out; omega, hXW.trans x0, .inr ⟨i + 1, rfl, by rw [hb.out], by rw [hb.out]⟩⟩
          case measure => simp [intOf]; omega
    · rcases hcase with ⟨rfl, rfl, rfl⟩ | ⟨i, rfl, rfl, rfl⟩
      · exfalso; simp at hlt; omega
      · rw [show (lst1 zs - fst1 zs - t).toNat = i by omega] at e1
        have q8 : IntKind.i64.wrap (fst1 zs + ((i + 1 : Nat) : Int) + t) = fst1 zs + ((i + 1 : Nat) : Int) + t := IntWalk.i64_in _ (by omega)
        go_wp2_with (first | (go_at_call 78; refine (impllast_any _ _ _ zs _ (by first | exact hrW.ext x0 | exact hrW.ext x0.drew | exact hrW.ext (x0.drewN _)) hn hn1 hm).mono ?_; rintro e w1 ⟨rfl, x1⟩; (try clear xc xf xs); (first | replace x0 := x0.trans x1 | replace x0 := (x0.alloc _).trans x1 | replace x0 := (x0.drew).trans x1 | replace x0 := (x0.drew.alloc _).trans x1 | replace x0 := (x0.alloc _).drew.trans x1 | replace x0 := ((x0.alloc _).alloc _).trans x1 | have x0 := x1); clear x1; obtain ⟨xc, xf, xs⟩ := x0.cells))
        go_ret2
        exact ⟨ret2 e1.out e2.out, hE.trans x0⟩

set_option maxRecDepth 100000 in
set_option maxHeartbeats 16000000 in
theorem specBestStopwork_any (a : Option Addr) (n c : Nat) (zs : List (Int × Int)) (t : Int) (w : World) (hr : RowAt w a zs) (hn : zs.length = n) (hm : n ≤ 1048576) :
    Calls Try.prog 39 #[.agg #[.slice a n c], .int .i64 t] w fun e w' => e = .returned (.tuple #[.int .i64 (bsR zs t), .int .i64 (bsCd zs t)]) ∧ Ext w w' := by
  cases hv0 : vSpr zs
  · have e2 := Lib.hid (show 1 = bsCd zs t by simp [bsCd, hv0])
    have e1 := Lib.hid (show 0 = bsR zs t by rw [bsR, ← e2.out]; rfl)
    go_enter Try.func39, Try.ntmps39
    go_wp2_with fail
    generalize hW : (w.alloc (Obj.cells #[.slice a n c] 38)) = W
    have hE : Ext w W := by rw [← hW]; exact (Ext.refl _).alloc _
    have hlw : w.heap.size < W.heap.size := by rw [← hW]; simp
    have f0 : W.cell? ⟨w.heap.size, 0, none⟩ = some (.slice a n c) := by rw [← hW]; simp [go_sem]
    clear hW
    have hrW := hr.ext hE
    have x0 := Ext.refl W
    go_wp2_with (first | (go_at_call 60; refine (l13Ok_any _ _ _ zs _ (by first | exact hrW.ext x0 | exact hrW.ext x0.drew | exact hrW.ext (x0.drewN _)) hn hm).mono ?_; rintro e w1 ⟨rfl, x1⟩; (try clear xc xf xs); (first | replace x0 := x0.trans x1 | replace x0 := (x0.alloc _).trans x1 | replace x0 := (x0.drew).trans x1 | replace x0 := (x0.drew.alloc _).trans x1 | replace x0 := (x0.alloc _).drew.trans x1 | replace x0 := ((x0.alloc _).alloc _).trans x1 | have x0 := x1); clear x1; obtain ⟨xc, xf, xs⟩ := x0.cells))
    go_ret2
    exact ⟨ret2 e1.out e2.out, hE.trans x0⟩
  have hn1 : 1 ≤ n := by have := vSpr_n hv0; omega
  have hends := ends_bd hv0
  have q0 : IntKind.i64.wrap (lst1 zs - fst1 zs) = lst1 zs - fst1 zs := IntWalk.i64_in _ (by omega)
  cases h2 : inB t 1 (lst1 zs - fst1 zs)
  · have e2 := Lib.hid (show 2 = bsCd zs t by simp [bsCd, hv0, h2])
    have e1 := Lib.hid (show 0 = bsR zs t by rw [bsR, ← e2.out]; rfl)
    go_enter Try.func39, Try.ntmps39
    go_wp2_with fail
    generalize hW : (w.alloc (Obj.cells #[.slice a n c] 38)) = W
    have hE : Ext w W := by rw [← hW]; exact (Ext.refl _).alloc _
    have hlw : w.heap.size < W.heap.size := by rw [← hW]; simp
    have f0 : W.cell? ⟨w.heap.size, 0, none⟩ = some (.slice a n c) := by rw [← hW]; simp [go_sem]
    clear hW
    have hrW := hr.ext hE
    have x0 := Ext.refl W
    go_upto_region 3 with (first | (go_at_call 60; refine (l13Ok_any _ _ _ zs _ (by first | exact hrW.ext x0 | exact hrW.ext x0.drew | exact hrW.ext (x0.drewN _)) hn hm).mono ?_; rintro e w1 ⟨rfl, x1⟩; (try clear xc xf xs); (first | replace x0 := x0.trans x1 | replace x0 := (x0.alloc _).trans x1 | replace x0 := (x0.drew).trans x1 | replace x0 := (x0.drew.alloc _).trans x1 | replace x0 := (x0.alloc _).drew.trans x1 | replace x0 := ((x0.alloc _).alloc _).trans x1 | have x0 := x1); clear x1; obtain ⟨xc, xf, xs⟩ := x0.cells))
    replace f0 := (x0.cells.1 _ _ hlw).trans f0
    replace hlw := Nat.lt_of_lt_of_le hlw x0.size
    replace hrW := hrW.ext x0
    replace hE := hE.trans x0
    clear xc xf xs x0
    rename World => W
    have x0 := Ext.refl W
    go_cut [20] (fun sd wx => sd = .bool true ∧ Ext W wx)
    case first =>
      go_region_held3 (fun w' => w'.cell? ⟨w.heap.size, 0, none⟩ = some (.slice a n c))
        (refine keep_ext (W := W) ?_ (by assumption) (by assumption) <;> (repeat (first | exact x0 | refine Ext.drew ?_)))
        (first | (go_at_call 76; refine (speclast_any _ _ _ zs _ (by first | exact hrW.ext x0 | exact hrW.ext x0.drew | exact hrW.ext (x0.drewN _)) hn hn1 hm).mono ?_; rintro e w1 ⟨rfl, x1⟩; (try clear xc xf xs); (first | replace x0 := x0.trans x1 | replace x0 := (x0.alloc _).trans x1 | replace x0 := (x0.drew).trans x1 | replace x0 := (x0.drew.alloc _).trans x1 | replace x0 := (x0.alloc _).drew.trans x1 | replace x0 := ((x0.alloc _).alloc _).trans x1 | have x0 := x1); clear x1; obtain ⟨xc, xf, xs⟩ := x0.cells) | (go_at_call 77; refine (specfirst_any _ _ _ zs _ (by first | exact hrW.ext x0 | exact hrW.ext x0.drew | exact hrW.ext (x0.drewN _)) hn hn1).mono ?_; rintro e w1 ⟨rfl, x1⟩; (try clear xc xf xs); (first | replace x0 := x0.trans x1 | replace x0 := (x0.alloc _).trans x1 | replace x0 := (x0.drew).trans x1 | replace x0 := (x0.drew.alloc _).trans x1 | replace x0 := (x0.alloc _).drew.trans x1 | replace x0 := ((x0.alloc _).alloc _).trans x1 | have x0 := x1); clear x1; obtain ⟨xc, xf, xs⟩ := x0.cells) | (go_at_call 54; refine (l00In_any _ _ _ _).mono ?_; rintro e w1 ⟨rfl, rfl⟩))
      all_goals (go_wp2_with fail; go_meet; exact ⟨(by first | rfl | (simp [*]; done)), (by first | exact x0 | exact x0.drew)⟩)
    case rest =>
    obtain ⟨rfl, x0⟩ := hcut
    replace f0 := (x0.cells.1 _ _ hlw).trans f0
    replace hlw := Nat.lt_of_lt_of_le hlw x0.size
    replace hrW := hrW.ext x0
    replace hE := hE.trans x0
    clear x0
    rename World => W
    have x0 := Ext.refl W

    go_wp2_with fail
    go_ret2
    exact ⟨ret2 e1.out e2.out, hE.trans x0⟩
  have e2 := Lib.hid (show 0 = bsCd zs t by simp [bsCd, hv0, h2])
  have e1 := Lib.hid (show (bsP zs t (lst1 zs - fst1 zs - t).toNat).1 = bsR zs t by rw [bsR, if_pos e2.out.symm])
  have hv := Lib.hid hv0
  have ht := inB_iff.1 h2
  go_enter Try.func39, Try.ntmps39
  go_wp2_with fail
  generalize hW : (w.alloc (Obj.cells #[.slice a n c] 38)) = W
  have hE : Ext w W := by rw [← hW]; exact (Ext.refl _).alloc _
  have hlw : w.heap.size < W.heap.size := by rw [← hW]; simp
  have f0 : W.cell? ⟨w.heap.size, 0, none⟩ = some (.slice a n c) := by rw [← hW]; simp [go_sem]
  clear hW
  have hrW := hr.ext hE
  have x0 := Ext.refl W
  go_upto_region 3 with (first | (go_at_call 60; refine (l13Ok_any _ _ _ zs _ (by first | exact hrW.ext x0 | exact hrW.ext x0.drew | exact hrW.ext (x0.drewN _)) hn hm).mono ?_; rintro e w1 ⟨rfl, x1⟩; (try clear xc xf xs); (first | replace x0 := x0.trans x1 | replace x0 := (x0.alloc _).trans x1 | replace x0 := (x0.drew).trans x1 | replace x0 := (x0.drew.alloc _).trans x1 | replace x0 := (x0.alloc _).drew.trans x1 | replace x0 := ((x0.alloc _).alloc _).trans x1 | have x0 := x1); clear x1; obtain ⟨xc, xf, xs⟩ := x0.cells))
  replace f0 := (x0.cells.1 _ _ hlw).trans f0
  replace hlw := Nat.lt_of_lt_of_le hlw x0.size
  replace hrW := hrW.ext x0
  replace hE := hE.trans x0
  clear xc xf xs x0
  rename World => W
  have x0 := Ext.refl W
  go_cut [20] (fun sd wx => sd = .bool false ∧ Ext W wx)
  case first =>
    go_region_held3 (fun w' => w'.cell? ⟨w.heap.size, 0, none⟩ = some (.slice a n c))
      (refine keep_ext (W := W) ?_ (by assumption) (by assumption) <;> (repeat (first | exact x0 | refine Ext.drew ?_)))
      (first | (go_at_call 76; refine (speclast_any _ _ _ zs _ (by first | exact hrW.ext x0 | exact hrW.ext x0.drew | exact hrW.ext (x0.drewN _)) hn hn1 hm).mono ?_; rintro e w1 ⟨rfl, x1⟩; (try clear xc xf xs); (first | replace x0 := x0.trans x1 | replace x0 := (x0.alloc _).trans x1 | replace x0 := (x0.drew).trans x1 | replace x0 := (x0.drew.alloc _).trans x1 | replace x0 := (x0.alloc _).drew.trans x1 | replace x0 := ((x0.alloc _).alloc _).trans x1 | have x0 := x1); clear x1; obtain ⟨xc, xf, xs⟩ := x0.cells) | (go_at_call 77; refine (specfirst_any _ _ _ zs _ (by first | exact hrW.ext x0 | exact hrW.ext x0.drew | exact hrW.ext (x0.drewN _)) hn hn1).mono ?_; rintro e w1 ⟨rfl, x1⟩; (try clear xc xf xs); (first | replace x0 := x0.trans x1 | replace x0 := (x0.alloc _).trans x1 | replace x0 := (x0.drew).trans x1 | replace x0 := (x0.drew.alloc _).trans x1 | replace x0 := (x0.alloc _).drew.trans x1 | replace x0 := ((x0.alloc _).alloc _).trans x1 | have x0 := x1); clear x1; obtain ⟨xc, xf, xs⟩ := x0.cells) | (go_at_call 54; refine (l00In_any _ _ _ _).mono ?_; rintro e w1 ⟨rfl, rfl⟩))
    all_goals (go_wp2_with fail; go_meet; exact ⟨(by first | rfl | (simp [*]; done)), (by first | exact x0 | exact x0.drew)⟩)
  case rest =>
  obtain ⟨rfl, x0⟩ := hcut
  replace f0 := (x0.cells.1 _ _ hlw).trans f0
  replace hlw := Nat.lt_of_lt_of_le hlw x0.size
  replace hrW := hrW.ext x0
  replace hE := hE.trans x0
  clear x0
  rename World => W
  have x0 := Ext.refl W

  have p1 := Lib.hid (posn_in (zs := zs) (t := fst1 zs) (by omega) (by omega))
  have p2 := Lib.hid (posn_in (zs := zs) (t := fst1 zs + t) (by omega) (by omega))
  have b1 := pl_bd hv.out p1.out
  have b2 := pl_bd hv.out p2.out
  obtain ⟨A, hA⟩ : ∃ A, pl zs (fst1 zs + t) = A := ⟨_, rfl⟩
  obtain ⟨B, hB⟩ : ∃ B, pl zs (fst1 zs) = B := ⟨_, rfl⟩
  rw [hA] at b2
  rw [hB] at b1
  have hD := Lib.hid (show A - B = dW zs t (fst1 zs) by rw [dW, hA, hB])
  have hDb := dW_bd hv.out (by omega) p1.out p2.out
  replace hA := Lib.hid hA
  replace hB := Lib.hid hB
  have q7 : IntKind.i64.wrap (A - B) = A - B := IntWalk.i64_in _ (by omega)
  have q8 : IntKind.i64.wrap (fst1 zs + t) = fst1 zs + t := IntWalk.i64_in _ (by omega)

  have q9 : IntKind.i64.wrap (fst1 zs + 1) = fst1 zs + 1 := IntWalk.i64_in _ (by omega)
  go_upto_region 6 with (first | (go_at_call 77; refine (specfirst_any _ _ _ zs _ (by first | exact hrW.ext x0 | exact hrW.ext x0.drew | exact hrW.ext (x0.drewN _)) hn hn1).mono ?_; rintro e w1 ⟨rfl, x1⟩; (try clear xc xf xs); (first | replace x0 := x0.trans x1 | replace x0 := (x0.alloc _).trans x1 | replace x0 := (x0.drew).trans x1 | replace x0 := (x0.drew.alloc _).trans x1 | replace x0 := (x0.alloc _).drew.trans x1 | replace x0 := ((x0.alloc _).alloc _).trans x1 | have x0 := x1); clear x1; obtain ⟨xc, xf, xs⟩ := x0.cells))
  replace f0 := (x0.cells.1 _ _ hlw).trans f0
  replace hlw := Nat.lt_of_lt_of_le hlw x0.size
  replace hrW := hrW.ext x0
  replace hE := hE.trans x0
  clear xc xf xs x0
  rename World => W
  have x0 := Ext.refl W
  go_cut [7] (fun sd wx => sd = .int .i64 (dW zs t (fst1 zs)) ∧ Ext W wx)
  case first =>
    go_region_held3 (fun w' => w'.cell? ⟨w.heap.size, 0, none⟩ = some (.slice a n c))
      (refine keep_ext (W := W) ?_ (by assumption) (by assumption) <;> (repeat (first | exact x0 | refine Ext.drew ?_)))
      (first | (go_at_call 73; refine (specpullAt_any _ _ _ zs _ _ (by first | exact hrW.ext x0 | exact hrW.ext x0.drew | exact hrW.ext (x0.drewN _)) hn hv.out (by first | exact p1.out | exact p2.out)).mono ?_; rintro e w1 ⟨rfl, x1⟩; (first | rw [hA.out] | rw [hB.out]); (try clear xc xf xs); (first | replace x0 := x0.trans x1 | replace x0 := (x0.alloc _).trans x1 | replace x0 := (x0.drew).trans x1 | replace x0 := (x0.drew.alloc _).trans x1 | replace x0 := (x0.alloc _).drew.trans x1 | replace x0 := ((x0.alloc _).alloc _).trans x1 | have x0 := x1); clear x1; obtain ⟨xc, xf, xs⟩ := x0.cells))
    all_goals (go_wp2_with fail; go_meet; exact ⟨by rw [hD.out], (by first | exact x0 | exact x0.drew)⟩)
  case rest =>
  obtain ⟨rfl, x0⟩ := hcut
  clear hA hB

  replace f0 := (x0.cells.1 _ _ hlw).trans f0
  replace hlw := Nat.lt_of_lt_of_le hlw x0.size
  replace hrW := hrW.ext x0
  replace hE := hE.trans x0
  clear x0 p1 p2 b1 b2 hD hDb q7 q8
  rename World => W
  have x0 := Ext.refl W
  go_wp2_with fail
  go_loopw [6, 7, 8] (fun sb sl st wr => ∃ i : Nat, st = .int .i64 (fst1 zs + (i : Int) + 1) ∧ fst1 zs + i + t ≤ lst1 zs ∧ Ext W wr ∧ sb = .int .i64 (bsP zs t i).1 ∧ sl = .int .i64 (bsP zs t i).2) (fun _ _ st _ => (lst1 zs + 2 - intOf st).toNat)
  case atStart => exact ⟨0, by simp, by simp; omega, x0, rfl, rfl⟩
  case round =>
    clear x0 h2 hv0 q9; (try clear xc xf xs)
    obtain ⟨i, rfl, hj, hXW, rfl, rfl⟩ := hrel
    have g0 := (hXW.cells.1 _ _ hlw).trans f0
    have hl1 := Nat.lt_of_lt_of_le hlw hXW.size
    replace hE := hE.trans hXW
    replace hrW := hrW.ext hXW
    have x0 := Ext.refl wr

    by_cases hlt : fst1 zs + i + 1 + t ≤ lst1 zs
    · obtain ⟨x, hx⟩ : ∃ x, fst1 zs + (i : Int) + 1 = x := ⟨_, rfl⟩
      rw [hx] at hlt
      have hx0 : fst1 zs ≤ x := by omega
      have hxj := Lib.hid (show fst1 zs + ((i + 1 : Nat) : Int) + 1 = x + 1 by omega)
      have hxi := Lib.hid (show fst1 zs + ((i + 1 : Nat) : Int) = x by omega)
      rw [hx]
      replace hx := Lib.hid hx
      have p1 := Lib.hid (posn_in (zs := zs) (t := x) (by omega) (by omega))
      have p2 := Lib.hid (posn_in (zs := zs) (t := x + t) (by omega) (by omega))
      have b1 := pl_bd hv.out p1.out
      have b2 := pl_bd hv.out p2.out
      obtain ⟨A, hA⟩ : ∃ A, pl zs (x + t) = A := ⟨_, rfl⟩
      obtain ⟨B, hB⟩ : ∃ B, pl zs (x) = B := ⟨_, rfl⟩
      rw [hA] at b2
      rw [hB] at b1
      have hD := Lib.hid (show A - B = dW zs t (x) by rw [dW, hA, hB])
      have hDb := dW_bd hv.out (by omega) p1.out p2.out
      replace hA := Lib.hid hA
      replace hB := Lib.hid hB
      have q7 : IntKind.i64.wrap (A - B) = A - B := IntWalk.i64_in _ (by omega)
      have q8 : IntKind.i64.wrap (x + t) = x + t := IntWalk.i64_in _ (by omega)

      have q9 : IntKind.i64.wrap (x + 1) = x + 1 := IntWalk.i64_in _ (by omega)
      go_upto_region 10 with (first | (go_at_call 76; refine (speclast_any _ _ _ zs _ (by first | exact hrW.ext x0 | exact hrW.ext x0.drew | exact hrW.ext (x0.drewN _)) hn hn1 hm).mono ?_; rintro e w1 ⟨rfl, x1⟩; (try clear xc xf xs); (first | replace x0 := x0.trans x1 | replace x0 := (x0.alloc _).trans x1 | replace x0 := (x0.drew).trans x1 | replace x0 := (x0.drew.alloc _).trans x1 | replace x0 := (x0.alloc _).drew.trans x1 | replace x0 := ((x0.alloc _).alloc _).trans x1 | have x0 := x1); clear x1; obtain ⟨xc, xf, xs⟩ := x0.cells))
      replace g0 := (x0.cells.1 _ _ hl1).trans g0
      replace hl1 := Nat.lt_of_lt_of_le hl1 x0.size
      replace hrW := hrW.ext x0
      replace hXW := hXW.trans x0
      clear xc xf xs x0
      rename World => V
      have x0 := Ext.refl V
      go_cut [9] (fun sd wx => sd = .int .i64 (dW zs t x) ∧ Ext V wx)
      case first =>
        go_region_held3 (fun w' => w'.cell? ⟨w.heap.size, 0, none⟩ = some (.slice a n c))
          (refine keep_ext (W := V) ?_ (by assumption) (by assumption) <;> (repeat (first | exact x0 | refine Ext.drew ?_)))
          (first | (go_at_call 73; refine (specpullAt_any _ _ _ zs _ _ (by first | exact hrW.ext x0 | exact hrW.ext x0.drew | exact hrW.ext (x0.drewN _)) hn hv.out (by first | exact p1.out | exact p2.out)).mono ?_; rintro e w1 ⟨rfl, x1⟩; (first | rw [hA.out] | rw [hB.out]); (try clear xc xf xs); (first | replace x0 := x0.trans x1 | replace x0 := (x0.alloc _).trans x1 | replace x0 := (x0.drew).trans x1 | replace x0 := (x0.drew.alloc _).trans x1 | replace x0 := (x0.alloc _).drew.trans x1 | replace x0 := ((x0.alloc _).alloc _).trans x1 | have x0 := x1); clear x1; obtain ⟨xc, xf, xs⟩ := x0.cells))
        all_goals (go_wp2_with fail; go_meet; exact ⟨by rw [hD.out], (by first | exact x0 | exact x0.drew)⟩)
      case rest =>
      obtain ⟨rfl, x0⟩ := hcut
      clear hA hB

      by_cases hd : dW zs t x < (bsP zs t i).2
      · have hb := Lib.hid (show bsP zs t (i + 1) = (x, dW zs t x) by rw [bsP_take (by rw [hxi.out]; exact hd), hxi.out])
        generalize hP : bsP zs t i = P at *
        replace hP := Lib.hid hP
        generalize dW zs t x = D at *
        go_wp2_with fail
        go_roundw
        case rel => exact ⟨i + 1, by rw [hxj.out], by have := hxi.out; omega, hXW.trans x0, by rw [hb.out], by rw [hb.out]⟩
        case measure => simp [intOf]; omega
      · have hb := Lib.hid (show bsP zs t (i + 1) = bsP zs t i from bsP_keep (by rw [hxi.out]; exact hd))
        generalize hP : bsP zs t i = P at *
        replace hP := Lib.hid hP
        generalize dW zs t x = D at *
        go_wp2_with fail
        go_roundw
        case rel => exact ⟨i + 1, by rw [hxj.out], by have := hxi.out; omega, hXW.trans x0, by rw [hb.out], by rw [hb.out]⟩
        case measure => simp [intOf]; omega
    · rw [show (lst1 zs - fst1 zs - t).toNat = i by omega] at e1
      have q8 : IntKind.i64.wrap (fst1 zs + (i : Int) + 1 + t) = fst1 zs + (i : Int) + 1 + t := IntWalk.i64_in _ (by omega)
      go_wp2_with (first | (go_at_call 76; refine (speclast_any _ _ _ zs _ (by first | exact hrW.ext x0 | exact hrW.ext x0.drew | exact hrW.ext (x0.drewN _)) hn hn1 hm).mono ?_; rintro e w1 ⟨rfl, x1⟩; (try clear xc xf xs); (first | replace x0 := x0.trans x1 | replace x0 := (x0.alloc _).trans x1 | replace x0 := (x0.drew).trans x1 | replace x0 := (x0.drew.alloc _).trans x1 | replace x0 := (x0.alloc _).drew.trans x1 | replace x0 := ((x0.alloc _).alloc _).trans x1 | have x0 := x1); clear x1; obtain ⟨xc, xf, xs⟩ := x0.cells))
      go_ret2
      exact ⟨ret2 e1.out e2.out, hE.trans x0⟩

end Go.Proofs.Ytgkpganbepbjnaa
