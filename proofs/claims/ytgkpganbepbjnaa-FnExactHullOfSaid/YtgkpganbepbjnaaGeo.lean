/-
  Points: squared distances, turns, roots.
-/
import Derived.Test.YtgkpganbepbjnaaRoot
import Derived.Test.YtgkpganbepbjnaaSite
import Derived.Test.YtgkpganbepbjnaaHullQ
import Derived.Test.YtgkpganbepbjnaaHeld
import Derived.Deep.DeepCutAuto
namespace Go.Proofs.Ytgkpganbepbjnaa
open Go.RowKit
set_option linter.unusedSimpArgs false
set_option linter.unusedVariables false

set_option maxHeartbeats 1000000 in
theorem squared_any (a b c d : Int) (w : World) (ha : 0 ≤ a ∧ a ≤ 10000) (hb : 0 ≤ b ∧ b ≤ 10000) (hc : 0 ≤ c ∧ c ≤ 10000) (hd : 0 ≤ d ∧ d ≤ 10000) :
    Calls Try.prog 111 #[.agg #[.int .i64 a, .int .i64 b], .agg #[.int .i64 c, .int .i64 d]] w fun e w' => e = .returned (.int .i64 (sqd (a, b) (c, d))) ∧ Ext w w' := by
  have p1 := mul_abs (x := a - c) (y := a - c) (X := 10000) (Y := 10000) (by omega) (by omega)
  have p2 := mul_abs (x := b - d) (y := b - d) (X := 10000) (Y := 10000) (by omega) (by omega)
  have sac : IntKind.i64.wrap (a - c) = a - c := IntWalk.i64_in _ (by omega)
  have sbd : IntKind.i64.wrap (b - d) = b - d := IntWalk.i64_in _ (by omega)
  have q1 : IntKind.i64.wrap ((a - c) * (a - c)) = (a - c) * (a - c) := IntWalk.i64_in _ (by omega)
  have q2 : IntKind.i64.wrap ((b - d) * (b - d)) = (b - d) * (b - d) := IntWalk.i64_in _ (by omega)
  have q3 : IntKind.i64.wrap ((a - c) * (a - c) + (b - d) * (b - d)) = (a - c) * (a - c) + (b - d) * (b - d) := IntWalk.i64_in _ (by omega)
  clear p1 p2
  go_enter Try.func111, Try.ntmps111
  go_wp2
  go_ret
  exact ⟨rfl, ((Ext.refl _).alloc _).alloc _⟩
set_option maxHeartbeats 1000000 in
theorem l09Square_any (a b c d : Int) (w : World) (ha : 0 ≤ a ∧ a ≤ 10000) (hb : 0 ≤ b ∧ b ≤ 10000) (hc : 0 ≤ c ∧ c ≤ 10000) (hd : 0 ≤ d ∧ d ≤ 10000) :
    Calls Try.prog 105 #[.agg #[.int .i64 a, .int .i64 b], .agg #[.int .i64 c, .int .i64 d]] w fun e w' => e = .returned (.int .i64 (sqd (a, b) (c, d))) ∧ Ext w w' := by
  have p1 := mul_abs (x := a - c) (y := a - c) (X := 10000) (Y := 10000) (by omega) (by omega)
  have p2 := mul_abs (x := b - d) (y := b - d) (X := 10000) (Y := 10000) (by omega) (by omega)
  have sac : IntKind.i64.wrap (a - c) = a - c := IntWalk.i64_in _ (by omega)
  have sbd : IntKind.i64.wrap (b - d) = b - d := IntWalk.i64_in _ (by omega)
  have q1 : IntKind.i64.wrap ((a - c) * (a - c)) = (a - c) * (a - c) := IntWalk.i64_in _ (by omega)
  have q2 : IntKind.i64.wrap ((b - d) * (b - d)) = (b - d) * (b - d) := IntWalk.i64_in _ (by omega)
  have q3 : IntKind.i64.wrap ((a - c) * (a - c) + (b - d) * (b - d)) = (a - c) * (a - c) + (b - d) * (b - d) := IntWalk.i64_in _ (by omega)
  clear p1 p2
  go_enter Try.func105, Try.ntmps105
  go_wp2
  go_ret
  exact ⟨rfl, ((Ext.refl _).alloc _).alloc _⟩
set_option maxHeartbeats 1000000 in
theorem turnOf_any (a b c d e' g : Int) (w : World) (ha : 0 ≤ a ∧ a ≤ 10000) (hb : 0 ≤ b ∧ b ≤ 10000) (hc : 0 ≤ c ∧ c ≤ 10000) (hd : 0 ≤ d ∧ d ≤ 10000) (he : 0 ≤ e' ∧ e' ≤ 10000) (hg : 0 ≤ g ∧ g ≤ 10000) :
    Calls Try.prog 115 #[.agg #[.int .i64 a, .int .i64 b], .agg #[.int .i64 c, .int .i64 d], .agg #[.int .i64 e', .int .i64 g]] w fun e w' => e = .returned (.int .i64 (crs (a, b) (c, d) (e', g))) ∧ Ext w w' := by
  have p1 := mul_abs (x := c - a) (y := g - b) (X := 10000) (Y := 10000) (by omega) (by omega)
  have p2 := mul_abs (x := d - b) (y := e' - a) (X := 10000) (Y := 10000) (by omega) (by omega)
  have sca : IntKind.i64.wrap (c - a) = c - a := IntWalk.i64_in _ (by omega)
  have sgb : IntKind.i64.wrap (g - b) = g - b := IntWalk.i64_in _ (by omega)
  have sdb : IntKind.i64.wrap (d - b) = d - b := IntWalk.i64_in _ (by omega)
  have sea : IntKind.i64.wrap (e' - a) = e' - a := IntWalk.i64_in _ (by omega)
  have q1 : IntKind.i64.wrap ((c - a) * (g - b)) = (c - a) * (g - b) := IntWalk.i64_in _ (by omega)
  have q2 : IntKind.i64.wrap ((d - b) * (e' - a)) = (d - b) * (e' - a) := IntWalk.i64_in _ (by omega)
  have q3 : IntKind.i64.wrap ((c - a) * (g - b) - (d - b) * (e' - a)) = (c - a) * (g - b) - (d - b) * (e' - a) := IntWalk.i64_in _ (by omega)
  clear p1 p2
  go_enter Try.func115, Try.ntmps115
  go_wp2
  go_ret
  exact ⟨rfl, (((Ext.refl _).alloc _).alloc _).alloc _⟩
set_option maxHeartbeats 1000000 in
theorem l09Cross_any (a b c d e' g : Int) (w : World) (ha : 0 ≤ a ∧ a ≤ 10000) (hb : 0 ≤ b ∧ b ≤ 10000) (hc : 0 ≤ c ∧ c ≤ 10000) (hd : 0 ≤ d ∧ d ≤ 10000) (he : 0 ≤ e' ∧ e' ≤ 10000) (hg : 0 ≤ g ∧ g ≤ 10000) :
    Calls Try.prog 114 #[.agg #[.int .i64 a, .int .i64 b], .agg #[.int .i64 c, .int .i64 d], .agg #[.int .i64 e', .int .i64 g]] w fun e w' => e = .returned (.int .i64 (crs (a, b) (c, d) (e', g))) ∧ Ext w w' := by
  have p1 := mul_abs (x := c - a) (y := g - b) (X := 10000) (Y := 10000) (by omega) (by omega)
  have p2 := mul_abs (x := d - b) (y := e' - a) (X := 10000) (Y := 10000) (by omega) (by omega)
  have sca : IntKind.i64.wrap (c - a) = c - a := IntWalk.i64_in _ (by omega)
  have sgb : IntKind.i64.wrap (g - b) = g - b := IntWalk.i64_in _ (by omega)
  have sdb : IntKind.i64.wrap (d - b) = d - b := IntWalk.i64_in _ (by omega)
  have sea : IntKind.i64.wrap (e' - a) = e' - a := IntWalk.i64_in _ (by omega)
  have q1 : IntKind.i64.wrap ((c - a) * (g - b)) = (c - a) * (g - b) := IntWalk.i64_in _ (by omega)
  have q2 : IntKind.i64.wrap ((d - b) * (e' - a)) = (d - b) * (e' - a) := IntWalk.i64_in _ (by omega)
  have q3 : IntKind.i64.wrap ((c - a) * (g - b) - (d - b) * (e' - a)) = (c - a) * (g - b) - (d - b) * (e' - a) := IntWalk.i64_in _ (by omega)
  clear p1 p2
  go_enter Try.func114, Try.ntmps114
  go_wp2
  go_ret
  exact ⟨rfl, (((Ext.refl _).alloc _).alloc _).alloc _⟩
set_option maxHeartbeats 1000000 in
theorem l09Root_any (n : Int) (w : World) (hn : 0 ≤ n ∧ n ≤ 1000000000000000000) :
    Calls Try.prog 104 #[.int .i64 n] w fun e w' => e = .returned (.int .i64 (rootI n)) ∧ w = w' := by
  go_enter Try.func104, Try.ntmps104
  go_wp2
  go_loop [3, 4] (fun l h => ∃ x y : Int, l = .int .i64 x ∧ h = .int .i64 y ∧ (0 ≤ x ∧ x ≤ y ∧ y ≤ 1000000000) ∧ x * x ≤ n ∧ n < (y + 1) * (y + 1)) (fun l h => (intOf h - intOf l).toNat)
  case atStart => exact ⟨0, 1000000000, rfl, rfl, by omega, by omega, by omega⟩
  case round =>
    obtain ⟨x, y, rfl, rfl, hx, h1, h2⟩ := hrel
    by_cases hlt : x < y
    · have hmb : x < (x + y + 1) / 2 ∧ (x + y + 1) / 2 ≤ y := by omega
      have hmm := mul_bd (x := (x + y + 1) / 2) (y := (x + y + 1) / 2) (X := 1000000000) (Y := 1000000000) (by omega) (by omega)
      have q1 : IntKind.i64.wrap ((x + y + 1) / 2 * ((x + y + 1) / 2)) = (x + y + 1) / 2 * ((x + y + 1) / 2) := IntWalk.i64_in _ (by omega)
      by_cases hc : (x + y + 1) / 2 * ((x + y + 1) / 2) ≤ n
      · clear h1
        go_wp2_with fail
        go_round
        case rel => exact ⟨(x + y + 1) / 2, y, rfl, rfl, by omega, hc, h2⟩
        case measure => simp [intOf]; omega
      · clear h2
        go_wp2_with fail
        go_round
        case rel => exact ⟨x, (x + y + 1) / 2 - 1, rfl, rfl, by omega, h1, by rw [show (x + y + 1) / 2 - 1 + 1 = (x + y + 1) / 2 by omega]; omega⟩
        case measure => simp [intOf]; omega
    · obtain rfl : x = y := by omega
      have e := Lib.hid (rootI_eq (by omega) h1 h2)
      clear h1 h2
      go_wp2_with fail
      go_ret
      exact ⟨ret_int e.out, rfl⟩
theorem sqd_bd {a b c d : Int} (ha : 0 ≤ a ∧ a ≤ 10000) (hb : 0 ≤ b ∧ b ≤ 10000) (hc : 0 ≤ c ∧ c ≤ 10000) (hd : 0 ≤ d ∧ d ≤ 10000) : 0 ≤ sqd (a, b) (c, d) ∧ sqd (a, b) (c, d) ≤ 200000000 := by
  have p1 := mul_abs (x := a - c) (y := a - c) (X := 10000) (Y := 10000) (by omega) (by omega)
  have p2 := mul_abs (x := b - d) (y := b - d) (X := 10000) (Y := 10000) (by omega) (by omega)
  have z1 : 0 ≤ (a - c) * (a - c) := by rcases Int.le_total 0 (a - c) with h | h; exact Int.mul_nonneg h h; exact Int.mul_nonneg_of_nonpos_of_nonpos h h
  have z2 : 0 ≤ (b - d) * (b - d) := by rcases Int.le_total 0 (b - d) with h | h; exact Int.mul_nonneg h h; exact Int.mul_nonneg_of_nonpos_of_nonpos h h
  show 0 ≤ (a - c) * (a - c) + (b - d) * (b - d) ∧ (a - c) * (a - c) + (b - d) * (b - d) ≤ 200000000
  omega
end Go.Proofs.Ytgkpganbepbjnaa
