/-
  Contracts of the integer root: the program's from above, the reference's by halving.
-/
import Derived.Test.YtgkpganbepbjnaaRootP
import Derived.Test.YtgkpganbepbjnaaNum
import Derived.Test.YtgkpganbepbjnaaLen64
import Derived.Deep.DeepCutAuto
namespace Go.Proofs.Ytgkpganbepbjnaa
open Go.RowKit
set_option linter.unusedSimpArgs false
set_option linter.unusedVariables false

set_option maxHeartbeats 1000000 in
theorem rootOf_any (n : Int) (w : World) (hn : 0 ≤ n ∧ n ≤ 4000000000000000000) :
    Calls Try.prog 110 #[.int .i64 n] w fun e w' => e = .returned (.int .i64 (rootI n)) ∧ w = w' := by
  by_cases h0 : n = 0
  · subst h0
    have e := Lib.hid (show 0 = rootI 0 from rootI_eq (by omega) (by omega) (by omega))
    go_enter Try.func110, Try.ntmps110
    go_wp2
    go_ret
    exact ⟨ret_int e.out, rfl⟩
  have hz : (n == 0) = false := by simpa using h0
  have qu : IntKind.u64.wrap n = n := by rw [IntKind.wrap_u64]; omega
  have hb : Lib.bitLen n.toNat ≤ 62 := bl_le 64 _ 62 (by omega)
  obtain ⟨k1, k2, k3, k4⟩ := newt_start (n := n) (by omega) hn.2
  go_enter Try.func110, Try.ntmps110
  go_upto_region 4 with (go_at_call 124; refine (len64_any _ _ (by omega) (by omega)).mono ?_; rintro e w1 ⟨rfl, rfl⟩)
  generalize (2 : Int) ^ ((Lib.bitLen n.toNat + 1) / 2) = R at *
  clear k1 hb
  generalize hB : Lib.bitLen n.toNat = B at *
  clear hB
  have hR0 : ¬ R = 0 := by omega
  have q0 := newt_bd (n := n) (r := R) (by omega) k3 k2
  have q1 : IntKind.i64.wrap (R + n / R) = R + n / R := IntWalk.i64_in _ (by omega)
  have q2 := q0.1
  have q3 := q0.2.1
  have q4 := q0.2.2
  go_wp2_with fail
  go_loop [3, 4] (fun r nx => ∃ x y : Int, r = .int .i64 x ∧ nx = .int .i64 y ∧ (1 ≤ x ∧ x ≤ 2147483648) ∧ rootI n ≤ x ∧ y = (x + n / x) / 2) (fun r _ => (intOf r).toNat)
  case atStart => exact ⟨R, _, rfl, rfl, by omega, by omega, rfl⟩
  case round =>
    clear q0 q1 q2 q3 q4 hR0 k2 k3 k4 hz
    obtain ⟨x, y, rfl, rfl, hx, hs, hy⟩ := hrel
    have u1 := newt_up (n := n) (r := x) (by omega) hx.1
    have u2 := newt_bd (n := n) (r := x) (by omega) hx.1 hs
    rw [← hy] at u1 u2
    by_cases hlt : y < x
    · have u3 := newt_bd (n := n) (r := y) (by omega) u2.1 u1
      have hy0 : ¬ y = 0 := by omega
      have q0 := u2.1
      have q1 := u3.1
      have q2 := u3.2.1
      have q3 := u3.2.2
      clear hy u3 u2
      go_wp2_with fail
      go_round
      case rel => exact ⟨y, _, rfl, rfl, by omega, u1, rfl⟩
      case measure => simp [intOf]; omega
    · have e := Lib.hid (newt_stop (n := n) (r := x) (by omega) hx.1 hs (by rw [← hy]; exact hlt))
      clear hy u1 u2 hs
      go_wp2_with fail
      go_ret
      exact ⟨ret_int e.out, rfl⟩

end Go.Proofs.Ytgkpganbepbjnaa
