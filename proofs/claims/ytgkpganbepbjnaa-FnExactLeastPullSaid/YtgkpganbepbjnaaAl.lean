/-
  Trains of pairs, and the torque along them.
-/
import Derived.Test.YtgkpganbepbjnaaAlP
import Derived.Test.YtgkpganbepbjnaaSpring
import Derived.Test.YtgkpganbepbjnaaRow1
import Derived.Deep.DeepCutAuto
namespace Go.Proofs.Ytgkpganbepbjnaa
open Go.RowKit
set_option linter.unusedSimpArgs false
set_option linter.unusedVariables false

theorem rt2 {v : Value} {c d : Int} (h : c = d) : Ending.returned (.tuple #[v, .int .i64 c]) = .returned (.tuple #[v, .int .i64 d]) := by rw [h]
theorem own_base' {W cur w1 : World} {v : Value} {zs : List Int} (h : IntsOf w1 cur.heap.size v zs) (hb : W.heap.size ≤ cur.heap.size) : IntsOf w1 W.heap.size v zs := own_base h hb
theorem one_row (w : World) (q : Int) : IntsOf (w.alloc (.cells #[.int .i64 q] 2)) w.heap.size (.slice (some ⟨w.heap.size, 0, none⟩) 1 1) [q] :=
  ⟨by simp, .inr ⟨w.heap.size, 1, _, rfl, Nat.le_refl _, heap_alloc_new w _, Nat.le_refl _, by decide, by simp, by simp⟩⟩

set_option maxHeartbeats 4000000 in
theorem implValidTrain_any (a : Option Addr) (n c : Nat) (zs : List (Int × Int)) (w : World) (hr : RowAt w a zs) (hn : zs.length = n) (hm : n ≤ 1048576) :
    Calls Try.prog 67 #[.slice a n c] w fun e w' => e = .returned (.bool (vTrain zs)) ∧ Ext w w' := by
  go_enter Try.func67, Try.ntmps67
  go_wp2_with fail
  go_loopw [7] (fun kk wr => ∃ i : Nat, kk = .int .i64 i ∧ i ≤ n ∧ Ext w wr ∧ Hid (∀ j, j < i → vPair (zs.getD j (0, 0)).1 (zs.getD j (0, 0)).2 = true)) (fun kk _ => n - (intOf kk).toNat)
  case atStart => exact ⟨0, rfl, Nat.zero_le _, Ext.refl _, Lib.hid (fun j hj => by omega)⟩
  case round =>
    obtain ⟨i, rfl, hi, xw, hh⟩ := hrel
    by_cases h0 : i < n
    · obtain ⟨b, off, rfl, hb, x, y, ex, ey, c0, c1⟩ := (hr.ext xw).look (j := i) (by omega)
      have t1 : decide ((i : Int) < (n : Int)) = true := by simp; omega
      have hne : wr.heap.size ≠ b := by omega
      have x0 := xw
      cases h1 : vPair x y
      · have e := Lib.hid (vTrain_bad hn h0 (by rw [ex.out, ey.out]; exact h1))
        clear ex ey hr
        go_wp2_with (first | (go_at_call 99; refine (implValidPair_any _ _ _).mono ?_; rintro e w1 ⟨rfl, x1⟩; (try clear xc xf xs); (first | replace x0 := x0.trans x1 | replace x0 := (x0.alloc _).trans x1 | replace x0 := (x0.drew).trans x1 | replace x0 := (x0.drew.alloc _).trans x1 | replace x0 := (x0.alloc _).drew.trans x1 | replace x0 := ((x0.alloc _).alloc _).trans x1 | have x0 := x1); clear x1; obtain ⟨xc, xf, xs⟩ := x0.cells))
        go_ret
        exact ⟨ret_bool e.out, x0⟩
      · have hk := Lib.hid (show ∀ j, j < i + 1 → vPair (zs.getD j (0, 0)).1 (zs.getD j (0, 0)).2 = true from fun j hj => by
          by_cases hji : j = i
          · rw [hji, ex.out, ey.out]; exact h1
          · exact hh.out j (by omega))
        clear ex ey hr
        go_wp2_with (first | (go_at_call 99; refine (implValidPair_any _ _ _).mono ?_; rintro e w1 ⟨rfl, x1⟩; (try clear xc xf xs); (first | replace x0 := x0.trans x1 | replace x0 := (x0.alloc _).trans x1 | replace x0 := (x0.drew).trans x1 | replace x0 := (x0.drew.alloc _).trans x1 | replace x0 := (x0.alloc _).drew.trans x1 | replace x0 := ((x0.alloc _).alloc _).trans x1 | have x0 := x1); clear x1; obtain ⟨xc, xf, xs⟩ := x0.cells))
        go_roundw
        case rel => exact ⟨i + 1, by go_num, by omega, x0, hk⟩
        case measure => simp [intOf]; omega
    · obtain rfl : n = i := by omega
      have t1 : decide ((n : Int) < (n : Int)) = false := by simp
      have e := Lib.hid (vTrain_end hn hh.out)
      clear hr
      go_wp2
      go_ret
      exact ⟨ret_bool e.out, xw⟩

set_option maxHeartbeats 4000000 in
theorem l05Ok_any (a : Option Addr) (n c : Nat) (zs : List (Int × Int)) (w : World) (hr : RowAt w a zs) (hn : zs.length = n) (hm : n ≤ 1048576) :
    Calls Try.prog 64 #[.slice a n c] w fun e w' => e = .returned (.bool (vTrain zs)) ∧ Ext w w' := by
  go_enter Try.func64, Try.ntmps64
  go_wp2_with fail
  go_loopw [3] (fun kk wr => ∃ i : Nat, kk = .int .i64 i ∧ i ≤ n ∧ Ext w wr ∧ Hid (∀ j, j < i → vPair (zs.getD j (0, 0)).1 (zs.getD j (0, 0)).2 = true)) (fun kk _ => n - (intOf kk).toNat)
  case atStart => exact ⟨0, rfl, Nat.zero_le _, Ext.refl _, Lib.hid (fun j hj => by omega)⟩
  case round =>
    obtain ⟨i, rfl, hi, xw, hh⟩ := hrel
    by_cases h0 : i < n
    · obtain ⟨b, off, rfl, hb, x, y, ex, ey, c0, c1⟩ := (hr.ext xw).look (j := i) (by omega)
      have t1 : decide ((i : Int) < (n : Int)) = true := by simp; omega
      have hne : wr.heap.size ≠ b := by omega
      have x0 := xw
      cases h1 : vPair x y
      · have e := Lib.hid (vTrain_bad hn h0 (by rw [ex.out, ey.out]; exact h1))
        clear ex ey hr
        go_wp2_with (first | (go_at_call 98; refine (l05Pair_any _ _ _).mono ?_; rintro e w1 ⟨rfl, x1⟩; (try clear xc xf xs); (first | replace x0 := x0.trans x1 | replace x0 := (x0.alloc _).trans x1 | replace x0 := (x0.drew).trans x1 | replace x0 := (x0.drew.alloc _).trans x1 | replace x0 := (x0.alloc _).drew.trans x1 | replace x0 := ((x0.alloc _).alloc _).trans x1 | have x0 := x1); clear x1; obtain ⟨xc, xf, xs⟩ := x0.cells))
        go_ret
        exact ⟨ret_bool e.out, x0⟩
      · have hk := Lib.hid (show ∀ j, j < i + 1 → vPair (zs.getD j (0, 0)).1 (zs.getD j (0, 0)).2 = true from fun j hj => by
          by_cases hji : j = i
          · rw [hji, ex.out, ey.out]; exact h1
          · exact hh.out j (by omega))
        clear ex ey hr
        go_wp2_with (first | (go_at_call 98; refine (l05Pair_any _ _ _).mono ?_; rintro e w1 ⟨rfl, x1⟩; (try clear xc xf xs); (first | replace x0 := x0.trans x1 | replace x0 := (x0.alloc _).trans x1 | replace x0 := (x0.drew).trans x1 | replace x0 := (x0.drew.alloc _).trans x1 | replace x0 := (x0.alloc _).drew.trans x1 | replace x0 := ((x0.alloc _).alloc _).trans x1 | have x0 := x1); clear x1; obtain ⟨xc, xf, xs⟩ := x0.cells))
        go_roundw
        case rel => exact ⟨i + 1, by go_num, by omega, x0, hk⟩
        case measure => simp [intOf]; omega
    · obtain rfl : n = i := by omega
      have t1 : decide ((n : Int) < (n : Int)) = false := by simp
      have e := Lib.hid (vTrain_end hn hh.out)
      clear hr
      go_wp2
      go_ret
      exact ⟨ret_bool e.out, xw⟩

set_option maxRecDepth 100000 in
set_option maxHeartbeats 4000000 in
theorem implpullAlong_any (a : Option Addr) (n c : Nat) (zs : List (Int × Int)) (q u : Int) (w : World) (hr : RowAt w a zs) (hn : zs.length = n) (hm : n ≤ 1048576) (hv : vTrain zs = true) (hq : 0 ≤ q ∧ q ≤ 1000000) (hu : 0 ≤ u ∧ u ≤ 1000) :
    Calls Try.prog 70 #[.slice a n c, .int .i64 q, .int .i64 u] w fun e w' => ∃ v, e = .returned v ∧ IntsOf w' w.heap.size v (paL zs u q n) ∧ Ext w w' := by
  have hst := one_row w q
  have hn5 := vTrain_len hv
  replace hv := Lib.hid hv
  go_enter Try.func70, Try.ntmps70
  go_wp2_with fail
  go_loopw [1, 7, 14] (fun pp vv kk wr => ∃ i : Nat, kk = .int .i64 i ∧ i ≤ n ∧ pp = .int .i64 (paS zs u q i) ∧ IntsOf wr w.heap.size vv (paL zs u q i) ∧ Ext w wr) (fun _ _ kk _ => n - (intOf kk).toNat)
  case atStart => exact ⟨0, rfl, Nat.zero_le _, rfl, hst, (Ext.refl _).alloc _⟩
  case round =>
    clear hst
    obtain ⟨i, rfl, hi, rfl, ho, xw⟩ := hrel
    by_cases h0 : i < n
    · obtain ⟨b, off, rfl, hb, x, y, ex, ey, c0, c1⟩ := (hr.ext xw).look (j := i) (by omega)
      have hP := paS_lim hv.out hu hq i (by omega)
      obtain ⟨hx, hy⟩ := vTrain_at hv.out (i := i) (by omega)
      rw [ex.out] at hx
      rw [ey.out] at hy
      have hsb := stage_bd hP.1 hx hy hu
      have hpu := Lib.hid (paL_succ zs u q i)
      have hol := Lib.hid (paL_length zs u q i)
      have hnx := Lib.hid (show paS zs u q i * y / x * (1000 - u) / 1000 = paS zs u q (i + 1) by rw [paS, ex.out, ey.out])
      generalize hO : paL zs u q i = O at *
      replace hO := Lib.hid hO
      generalize hS : paS zs u q i = S at *
      replace hS := Lib.hid hS
      have d1 : (S * y).tdiv x = S * y / x := by rw [Int.tdiv_eq_ediv_of_nonneg hsb.1.1]
      generalize hD : S * y / x = D at *
      replace hD := Lib.hid hD
      have d2 : (D * (1000 - u)).tdiv 1000 = D * (1000 - u) / 1000 := by rw [Int.tdiv_eq_ediv_of_nonneg hsb.2.2.1.1]
      have q1 : IntKind.i64.wrap (S * y) = S * y := IntWalk.i64_in _ (by omega)
      have q2 : IntKind.i64.wrap D = D := IntWalk.i64_in _ (by omega)
      have q3 : IntKind.i64.wrap (1000 - u) = 1000 - u := IntWalk.i64_in _ (by omega)
      have q4 : IntKind.i64.wrap (D * (1000 - u)) = D * (1000 - u) := IntWalk.i64_in _ (by omega)
      generalize hE : D * (1000 - u) / 1000 = E at *
      replace hE := Lib.hid hE
      have q5 : IntKind.i64.wrap E = E := IntWalk.i64_in _ (by omega)
      have t1 : decide ((i : Int) < (n : Int)) = true := by simp; omega
      have t5 : (i : Int) < (n : Int) := by omega
      have hx0 : ¬ x = 0 := by omega
      have hne : wr.heap.size ≠ b := by omega
      clear ex ey
      go_upto_region 7 with fail
      generalize hU : World.alloc _ _ = U
      have xU : Ext wr U := by rw [← hU]; exact (Ext.refl _).alloc _
      clear hU
      obtain ⟨i0, hii, hz0, hz1, hz2⟩ := int_info
      go_wp2_with (at_builtin; refine wpList_append_ext _ rfl _ _ 49 rfl w.heap.size 2 i0 (.int .i64 0) 1 8 Try.underlying49 hii hz0 hz1 hz2 rfl (by decide) _ _ _ rfl ((ho.ext xU).ext ((Ext.refl _).alloc _)) ⟨U.heap.size, 0, none⟩ 1 1 [.int .i64 E] rfl rfl (one_new _ _ rfl) (one_cell _) ?c3 ?c4 ?c5 ?_)
      case c3 => rw [hol.out]; unfold maxLen; omega
      case c4 => rw [hol.out]; omega
      case c5 => have := (xw.trans xU).size; simp; omega
      intro v' w2 h2 hx2
      clear hii hz0 hz1 hz2
      go_wp2_with fail
      go_roundw
      case rel => exact ⟨i + 1, by go_num, by omega, by rw [hnx.out], IntsOf.push h2 (by rw [hpu.out, hnx.out]), hx2 w ((xw.trans xU).alloc _) (Nat.le_refl _)⟩
      case measure => simp [intOf]; omega
    · obtain rfl : n = i := by omega
      have t1 : decide ((n : Int) < (n : Int)) = false := by simp
      clear hr
      go_wp2
      go_ret
      exact ⟨_, rfl, ho, xw⟩

set_option maxRecDepth 100000 in
set_option maxHeartbeats 4000000 in
theorem l13Along_any (a : Option Addr) (n c : Nat) (zs : List (Int × Int)) (q u : Int) (w : World) (hr : RowAt w a zs) (hn : zs.length = n) (hm : n ≤ 1048576) (hv : vTrain zs = true) (hq : 0 ≤ q ∧ q ≤ 1000000) (hu : 0 ≤ u ∧ u ≤ 1000) :
    Calls Try.prog 65 #[.slice a n c, .int .i64 q, .int .i64 u] w fun e w' => ∃ v, e = .returned v ∧ IntsOf w' w.heap.size v (paL zs u q n) ∧ Ext w w' := by
  have hst := one_row w q
  have hn5 := vTrain_len hv
  replace hv := Lib.hid hv
  go_enter Try.func65, Try.ntmps65
  go_wp2_with fail
  go_loopw [1, 7, 8] (fun pp vv kk wr => ∃ i : Nat, kk = .int .i64 i ∧ i ≤ n ∧ pp = .int .i64 (paS zs u q i) ∧ IntsOf wr w.heap.size vv (paL zs u q i) ∧ Ext w wr) (fun _ _ kk _ => n - (intOf kk).toNat)
  case atStart => exact ⟨0, rfl, Nat.zero_le _, rfl, hst, (Ext.refl _).alloc _⟩
  case round =>
    clear hst
    obtain ⟨i, rfl, hi, rfl, ho, xw⟩ := hrel
    by_cases h0 : i < n
    · obtain ⟨b, off, rfl, hb, x, y, ex, ey, c0, c1⟩ := (hr.ext xw).look (j := i) (by omega)
      have hP := paS_lim hv.out hu hq i (by omega)
      obtain ⟨hx, hy⟩ := vTrain_at hv.out (i := i) (by omega)
      rw [ex.out] at hx
      rw [ey.out] at hy
      have hsb := stage_bd hP.1 hx hy hu
      have hpu := Lib.hid (paL_succ zs u q i)
      have hol := Lib.hid (paL_length zs u q i)
      have hnx := Lib.hid (show paS zs u q i * y / x * (1000 - u) / 1000 = paS zs u q (i + 1) by rw [paS, ex.out, ey.out])
      generalize hO : paL zs u q i = O at *
      replace hO := Lib.hid hO
      generalize hS : paS zs u q i = S at *
      replace hS := Lib.hid hS
      have d1 : (S * y).tdiv x = S * y / x := by rw [Int.tdiv_eq_ediv_of_nonneg hsb.1.1]
      generalize hD : S * y / x = D at *
      replace hD := Lib.hid hD
      have d2 : (D * (1000 - u)).tdiv 1000 = D * (1000 - u) / 1000 := by rw [Int.tdiv_eq_ediv_of_nonneg hsb.2.2.1.1]
      have q1 : IntKind.i64.wrap (S * y) = S * y := IntWalk.i64_in _ (by omega)
      have q2 : IntKind.i64.wrap D = D := IntWalk.i64_in _ (by omega)
      have q3 : IntKind.i64.wrap (1000 - u) = 1000 - u := IntWalk.i64_in _ (by omega)
      have q4 : IntKind.i64.wrap (D * (1000 - u)) = D * (1000 - u) := IntWalk.i64_in _ (by omega)
      generalize hE : D * (1000 - u) / 1000 = E at *
      replace hE := Lib.hid hE
      have q5 : IntKind.i64.wrap E = E := IntWalk.i64_in _ (by omega)
      have t1 : decide ((i : Int) < (n : Int)) = true := by simp; omega
      have t5 : (i : Int) < (n : Int) := by omega
      have hx0 : ¬ x = 0 := by omega
      have hne : wr.heap.size ≠ b := by omega
      clear ex ey
      go_upto_region 5 with fail
      go_quiet (fail)
      go_upto_region 7 with fail
      generalize hU : World.drewN _ _ = U
      have xU : Ext wr U := by rw [← hU]; exact (Ext.refl _).drewN _
      clear hU
      obtain ⟨i0, hii, hz0, hz1, hz2⟩ := int_info
      go_wp2_with (at_builtin; refine wpList_append_ext _ rfl _ _ 49 rfl w.heap.size 2 i0 (.int .i64 0) 1 8 Try.underlying49 hii hz0 hz1 hz2 rfl (by decide) _ _ _ rfl ((ho.ext xU).ext ((Ext.refl _).alloc _)) ⟨U.heap.size, 0, none⟩ 1 1 [.int .i64 E] rfl rfl (one_new _ _ rfl) (one_cell _) ?c3 ?c4 ?c5 ?_)
      case c3 => rw [hol.out]; unfold maxLen; omega
      case c4 => rw [hol.out]; omega
      case c5 => have := (xw.trans xU).size; simp; omega
      intro v' w2 h2 hx2
      clear hii hz0 hz1 hz2
      go_wp2_with fail
      go_roundw
      case rel => exact ⟨i + 1, by go_num, by omega, by rw [hnx.out], IntsOf.push h2 (by rw [hpu.out, hnx.out]), hx2 w ((xw.trans xU).alloc _) (Nat.le_refl _)⟩
      case measure => simp [intOf]; omega
    · obtain rfl : n = i := by omega
      have t1 : decide ((n : Int) < (n : Int)) = false := by simp
      clear hr
      go_wp2
      go_ret
      exact ⟨_, rfl, ho, xw⟩

set_option maxRecDepth 100000 in
set_option maxHeartbeats 4000000 in
theorem implPullAlong_any (a : Option Addr) (n c : Nat) (zs : List (Int × Int)) (q u : Int) (w : World) (hr : RowAt w a zs) (hn : zs.length = n) (hm : n ≤ 1048576) :
    Calls Try.prog 30 #[.slice a n c, .int .i64 q, .int .i64 u] w fun e w' => ∃ v, e = .returned (.tuple #[v, .int .i64 (paCd zs q u)]) ∧ IntsOf w' w.heap.size v (paR zs q u) ∧ Ext w w' := by
  cases h1 : vTrain zs
  · have e2 := Lib.hid (show 1 = paCd zs q u by simp [paCd, h1])
    have e1 := Lib.hid (show [] = paR zs q u by rw [paR, ← e2.out]; rfl)
    have x0 := Ext.refl w
    go_enter Try.func30, Try.ntmps30
    go_wp2_with (first | (go_at_call 67; refine (implValidTrain_any _ _ _ zs _ (hr.ext x0) hn hm).mono ?_; rintro e w1 ⟨rfl, x1⟩; (try clear xc xf xs); (first | replace x0 := x0.trans x1 | replace x0 := (x0.alloc _).trans x1 | replace x0 := (x0.drew).trans x1 | replace x0 := (x0.drew.alloc _).trans x1 | replace x0 := (x0.alloc _).drew.trans x1 | replace x0 := ((x0.alloc _).alloc _).trans x1 | have x0 := x1); clear x1; obtain ⟨xc, xf, xs⟩ := x0.cells) | (go_at_call 62; refine (isPull_any _ _).mono ?_; rintro e w1 ⟨rfl, rfl⟩) | (go_at_call 55; refine (within_any _ _ _ _).mono ?_; rintro e w1 ⟨rfl, rfl⟩))
    go_ret2
    exact ⟨_, rt2 e2.out, (by rw [← e1.out]; exact World.ownsRow_nil _ _ _ _), x0⟩

  cases h2 : inB q 0 1000000
  · have e2 := Lib.hid (show 2 = paCd zs q u by simp [paCd, h1, h2])
    have e1 := Lib.hid (show [] = paR zs q u by rw [paR, ← e2.out]; rfl)
    have x0 := Ext.refl w
    go_enter Try.func30, Try.ntmps30
    go_wp2_with (first | (go_at_call 67; refine (implValidTrain_any _ _ _ zs _ (hr.ext x0) hn hm).mono ?_; rintro e w1 ⟨rfl, x1⟩; (try clear xc xf xs); (first | replace x0 := x0.trans x1 | replace x0 := (x0.alloc _).trans x1 | replace x0 := (x0.drew).trans x1 | replace x0 := (x0.drew.alloc _).trans x1 | replace x0 := (x0.alloc _).drew.trans x1 | replace x0 := ((x0.alloc _).alloc _).trans x1 | have x0 := x1); clear x1; obtain ⟨xc, xf, xs⟩ := x0.cells) | (go_at_call 62; refine (isPull_any _ _).mono ?_; rintro e w1 ⟨rfl, rfl⟩) | (go_at_call 55; refine (within_any _ _ _ _).mono ?_; rintro e w1 ⟨rfl, rfl⟩))
    go_ret2
    exact ⟨_, rt2 e2.out, (by rw [← e1.out]; exact World.ownsRow_nil _ _ _ _), x0⟩

  cases h3 : inB u 0 1000
  · have e2 := Lib.hid (show 2 = paCd zs q u by simp [paCd, h1, h2, h3])
    have e1 := Lib.hid (show [] = paR zs q u by rw [paR, ← e2.out]; rfl)
    have x0 := Ext.refl w
    go_enter Try.func30, Try.ntmps30
    go_wp2_with (first | (go_at_call 67; refine (implValidTrain_any _ _ _ zs _ (hr.ext x0) hn hm).mono ?_; rintro e w1 ⟨rfl, x1⟩; (try clear xc xf xs); (first | replace x0 := x0.trans x1 | replace x0 := (x0.alloc _).trans x1 | replace x0 := (x0.drew).trans x1 | replace x0 := (x0.drew.alloc _).trans x1 | replace x0 := (x0.alloc _).drew.trans x1 | replace x0 := ((x0.alloc _).alloc _).trans x1 | have x0 := x1); clear x1; obtain ⟨xc, xf, xs⟩ := x0.cells) | (go_at_call 62; refine (isPull_any _ _).mono ?_; rintro e w1 ⟨rfl, rfl⟩) | (go_at_call 55; refine (within_any _ _ _ _).mono ?_; rintro e w1 ⟨rfl, rfl⟩))
    go_ret2
    exact ⟨_, rt2 e2.out, (by rw [← e1.out]; exact World.ownsRow_nil _ _ _ _), x0⟩

  have e2 := Lib.hid (show 0 = paCd zs q u by simp [paCd, h1, h2, h3])
  have e1 := Lib.hid (show paL zs u q n = paR zs q u by rw [paR, if_pos e2.out.symm, hn])
  have hv := Lib.hid h1
  have hq := inB_iff.1 h2
  have hu := inB_iff.1 h3
  have x0 := Ext.refl w
  go_enter Try.func30, Try.ntmps30
  go_wp2_with (first | (go_at_call 67; refine (implValidTrain_any _ _ _ zs _ (hr.ext x0) hn hm).mono ?_; rintro e w1 ⟨rfl, x1⟩; (try clear xc xf xs); (first | replace x0 := x0.trans x1 | replace x0 := (x0.alloc _).trans x1 | replace x0 := (x0.drew).trans x1 | replace x0 := (x0.drew.alloc _).trans x1 | replace x0 := (x0.alloc _).drew.trans x1 | replace x0 := ((x0.alloc _).alloc _).trans x1 | have x0 := x1); clear x1; obtain ⟨xc, xf, xs⟩ := x0.cells) | (go_at_call 62; refine (isPull_any _ _).mono ?_; rintro e w1 ⟨rfl, rfl⟩) | (go_at_call 55; refine (within_any _ _ _ _).mono ?_; rintro e w1 ⟨rfl, rfl⟩) | (go_at_call 70; refine (implpullAlong_any _ _ _ zs q u _ (hr.ext x0) hn hm hv.out hq hu).mono ?_; rintro e w1 ⟨v, rfl, hv2, x1⟩; have hsz := x0.size; (try clear xc xf xs); (first | replace x0 := x0.trans x1 | replace x0 := (x0.alloc _).trans x1 | replace x0 := (x0.drew).trans x1 | replace x0 := (x0.drew.alloc _).trans x1 | replace x0 := (x0.alloc _).drew.trans x1 | replace x0 := ((x0.alloc _).alloc _).trans x1 | have x0 := x1); clear x1; obtain ⟨xc, xf, xs⟩ := x0.cells))
  go_ret2
  exact ⟨_, rt2 e2.out, (by rw [← e1.out]; exact own_base hv2 hsz), x0⟩

set_option maxRecDepth 100000 in
set_option maxHeartbeats 4000000 in
theorem specPullAlong_any (a : Option Addr) (n c : Nat) (zs : List (Int × Int)) (q u : Int) (w : World) (hr : RowAt w a zs) (hn : zs.length = n) (hm : n ≤ 1048576) :
    Calls Try.prog 29 #[.slice a n c, .int .i64 q, .int .i64 u] w fun e w' => ∃ v, e = .returned (.tuple #[v, .int .i64 (paCd zs q u)]) ∧ IntsOf w' w.heap.size v (paR zs q u) ∧ Ext w w' := by
  cases h1 : vTrain zs
  · have e2 := Lib.hid (show 1 = paCd zs q u by simp [paCd, h1])
    have e1 := Lib.hid (show [] = paR zs q u by rw [paR, ← e2.out]; rfl)
    have x0 := Ext.refl w
    go_enter Try.func29, Try.ntmps29
    go_wp2_with (first | (go_at_call 64; refine (l05Ok_any _ _ _ zs _ (hr.ext x0) hn hm).mono ?_; rintro e w1 ⟨rfl, x1⟩; (try clear xc xf xs); (first | replace x0 := x0.trans x1 | replace x0 := (x0.alloc _).trans x1 | replace x0 := (x0.drew).trans x1 | replace x0 := (x0.drew.alloc _).trans x1 | replace x0 := (x0.alloc _).drew.trans x1 | replace x0 := ((x0.alloc _).alloc _).trans x1 | have x0 := x1); clear x1; obtain ⟨xc, xf, xs⟩ := x0.cells) | (go_at_call 54; refine (l00In_any _ _ _ _).mono ?_; rintro e w1 ⟨rfl, rfl⟩))
    go_ret2
    exact ⟨_, rt2 e2.out, (by rw [← e1.out]; exact World.ownsRow_nil _ _ _ _), x0⟩

  cases h2 : inB q 0 1000000
  · have e2 := Lib.hid (show 2 = paCd zs q u by simp [paCd, h1, h2])
    have e1 := Lib.hid (show [] = paR zs q u by rw [paR, ← e2.out]; rfl)
    have x0 := Ext.refl w
    go_enter Try.func29, Try.ntmps29
    go_wp2_with (first | (go_at_call 64; refine (l05Ok_any _ _ _ zs _ (hr.ext x0) hn hm).mono ?_; rintro e w1 ⟨rfl, x1⟩; (try clear xc xf xs); (first | replace x0 := x0.trans x1 | replace x0 := (x0.alloc _).trans x1 | replace x0 := (x0.drew).trans x1 | replace x0 := (x0.drew.alloc _).trans x1 | replace x0 := (x0.alloc _).drew.trans x1 | replace x0 := ((x0.alloc _).alloc _).trans x1 | have x0 := x1); clear x1; obtain ⟨xc, xf, xs⟩ := x0.cells) | (go_at_call 54; refine (l00In_any _ _ _ _).mono ?_; rintro e w1 ⟨rfl, rfl⟩))
    go_ret2
    exact ⟨_, rt2 e2.out, (by rw [← e1.out]; exact World.ownsRow_nil _ _ _ _), x0⟩

  cases h3 : inB u 0 1000
  · have e2 := Lib.hid (show 2 = paCd zs q u by simp [paCd, h1, h2, h3])
    have e1 := Lib.hid (show [] = paR zs q u by rw [paR, ← e2.out]; rfl)
    have x0 := Ext.refl w
    go_enter Try.func29, Try.ntmps29
    go_wp2_with (first | (go_at_call 64; refine (l05Ok_any _ _ _ zs _ (hr.ext x0) hn hm).mono ?_; rintro e w1 ⟨rfl, x1⟩; (try clear xc xf xs); (first | replace x0 := x0.trans x1 | replace x0 := (x0.alloc _).trans x1 | replace x0 := (x0.drew).trans x1 | replace x0 := (x0.drew.alloc _).trans x1 | replace x0 := (x0.alloc _).drew.trans x1 | replace x0 := ((x0.alloc _).alloc _).trans x1 | have x0 := x1); clear x1; obtain ⟨xc, xf, xs⟩ := x0.cells) | (go_at_call 54; refine (l00In_any _ _ _ _).mono ?_; rintro e w1 ⟨rfl, rfl⟩))
    go_ret2
    exact ⟨_, rt2 e2.out, (by rw [← e1.out]; exact World.ownsRow_nil _ _ _ _), x0⟩

  have e2 := Lib.hid (show 0 = paCd zs q u by simp [paCd, h1, h2, h3])
  have e1 := Lib.hid (show paL zs u q n = paR zs q u by rw [paR, if_pos e2.out.symm, hn])
  have hv := Lib.hid h1
  have hq := inB_iff.1 h2
  have hu := inB_iff.1 h3
  have x0 := Ext.refl w
  go_enter Try.func29, Try.ntmps29
  go_wp2_with (first | (go_at_call 64; refine (l05Ok_any _ _ _ zs _ (hr.ext x0) hn hm).mono ?_; rintro e w1 ⟨rfl, x1⟩; (try clear xc xf xs); (first | replace x0 := x0.trans x1 | replace x0 := (x0.alloc _).trans x1 | replace x0 := (x0.drew).trans x1 | replace x0 := (x0.drew.alloc _).trans x1 | replace x0 := (x0.alloc _).drew.trans x1 | replace x0 := ((x0.alloc _).alloc _).trans x1 | have x0 := x1); clear x1; obtain ⟨xc, xf, xs⟩ := x0.cells) | (go_at_call 54; refine (l00In_any _ _ _ _).mono ?_; rintro e w1 ⟨rfl, rfl⟩) | (go_at_call 65; refine (l13Along_any _ _ _ zs q u _ (hr.ext x0) hn hm hv.out hq hu).mono ?_; rintro e w1 ⟨v, rfl, hv2, x1⟩; have hsz := x0.size; (try clear xc xf xs); (first | replace x0 := x0.trans x1 | replace x0 := (x0.alloc _).trans x1 | replace x0 := (x0.drew).trans x1 | replace x0 := (x0.drew.alloc _).trans x1 | replace x0 := (x0.alloc _).drew.trans x1 | replace x0 := ((x0.alloc _).alloc _).trans x1 | have x0 := x1); clear x1; obtain ⟨xc, xf, xs⟩ := x0.cells))
  go_ret2
  exact ⟨_, rt2 e2.out, (by rw [← e1.out]; exact own_base hv2 hsz), x0⟩

end Go.Proofs.Ytgkpganbepbjnaa
