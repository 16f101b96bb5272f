/-
  The laws find two rows of the same integers equal.
-/
import Derived.Test.YtehebhphlaghfaaEqInts
namespace Go.Proofs.Ytehebhphlaghfaa
open Go.RowKit
set_option linter.unusedSimpArgs false
set_option linter.unusedVariables false

set_option maxHeartbeats 4000000 in
theorem f6same_any (a a1 : Option Addr) (n c c1 B B1 : Nat) (zs : List Int) (w : World) (hr : IntsOf w B (.slice a n c) zs) (hr1 : IntsOf w B1 (.slice a1 n c1) zs) (hm : n ≤ 1048576) :
    Calls Try.prog 35 #[.slice a n c, .slice a1 n c1] w fun e w' => e = .returned (.bool true) ∧ Ext w w' := by
  have hn := Lib.hid hr.len
  go_enter Try.func35, Try.ntmps35
  go_wp2_with fail
  go_loopw [5] (fun kk wr => ∃ i : Nat, kk = .int .i64 i ∧ i ≤ n ∧ Ext w wr) (fun kk _ => n - (intOf kk).toNat)
  case atStart => exact ⟨0, rfl, Nat.zero_le _, Ext.refl _⟩
  case round =>
    obtain ⟨i, rfl, hi, xw⟩ := hrel
    by_cases h0 : i < n
    · obtain ⟨g, x, rfl, hg, hx, c0⟩ := (hr.ext xw).nth (j := i) (by rw [hn.out]; exact h0)
      obtain ⟨g1, x1, rfl, hg1, hx1, d0⟩ := (hr1.ext xw).nth (j := i) (by rw [hn.out]; exact h0)
      have f1 : x1 = x := hx1.out.symm.trans hx.out
      subst f1
      have t1 : decide ((i : Int) < (n : Int)) = true := by simp; omega
      clear hr hr1 hx hx1
      go_wp2_with fail
      go_quiet (fail)
      go_wp2_with fail
      go_roundw
      case rel => exact ⟨i + 1, by go_num, by omega, xw.drewN _⟩
      case measure => simp [intOf]; omega
    · have hin : i = n := by omega
      subst hin
      have t1 : decide ((i : Int) < (i : Int)) = false := by simp
      clear hr hr1
      go_wp2
      go_ret
      exact ⟨rfl, xw⟩
end Go.Proofs.Ytehebhphlaghfaa
