/-
  Two rows of the same integers are equal.
-/
import Derived.Test.YtgkpganbepbjnaaInts
namespace Go.Proofs.Ytgkpganbepbjnaa
open Go.RowKit
set_option linter.unusedSimpArgs false
set_option linter.unusedVariables false

theorem IntsOf.nth {w : World} {base n cap : Nat} {a : Option Addr} {zs : List Int} (h : IntsOf w base (.slice a n cap) zs) {j : Nat} (hj : j < zs.length) :
    ∃ g x, a = some ⟨g, 0, none⟩ ∧ g < w.heap.size ∧ Hid (zs.getD j 0 = x) ∧ w.cell? ⟨g, j, none⟩ = some (.int .i64 x) := by
  obtain ⟨g1, cap1, x, e, hg, hx, hc⟩ := h.look hj
  injection e with e1 e2 e3
  exact ⟨g1, x, e1, hg, hx, hc⟩
theorem IntsOf.len {w : World} {base n cap : Nat} {a : Option Addr} {zs : List Int} (h : IntsOf w base (.slice a n cap) zs) : zs.length = n := by
  obtain ⟨a1, cap1, e⟩ := h.shape
  injection e with e1 e2 e3
  exact e2.symm

set_option maxHeartbeats 4000000 in
theorem eqInt64S_any (a a1 : Option Addr) (n c c1 B B1 : Nat) (zs : List Int) (w : World) (hr : IntsOf w B (.slice a n c) zs) (hr1 : IntsOf w B1 (.slice a1 n c1) zs) (hm : n ≤ 1048576) :
    Calls Try.prog 31 #[.slice a n c, .slice a1 n c1] w fun e w' => e = .returned (.bool true) ∧ Ext w w' := by
  have hn := Lib.hid hr.len
  go_enter Try.func31, Try.ntmps31
  go_wp2_with fail
  go_loopw [5] (fun kk wr => ∃ i : Nat, kk = .int .i64 i ∧ i ≤ n ∧ Ext w wr) (fun kk _ => n - (intOf kk).toNat)
  case atStart => exact ⟨0, rfl, Nat.zero_le _, Ext.refl _⟩
  case round =>
    obtain ⟨i, rfl, hi, xw⟩ := hrel
    by_cases h0 : i < n
    · obtain ⟨g, x, rfl, hg, hx, c0⟩ := (hr.ext xw).nth (j := i) (by rw [hn.out]; exact h0)
      obtain ⟨g1, x1, rfl, hg1, hx1, d0⟩ := (hr1.ext xw).nth (j := i) (by rw [hn.out]; exact h0)
      have f1 : x1 = x := hx1.out.symm.trans hx.out
      subst f1
      have t1 : decide ((i : Int) < (n : Int)) = true := by simp; omega
      clear hr hr1 hx hx1
      go_wp2_with fail
      go_quiet (fail)
      go_wp2_with fail
      go_roundw
      case rel => exact ⟨i + 1, by go_num, by omega, xw.drewN _⟩
      case measure => simp [intOf]; omega
    · have hin : i = n := by omega
      subst hin
      have t1 : decide ((i : Int) < (i : Int)) = false := by simp
      clear hr hr1
      go_wp2
      go_ret
      exact ⟨rfl, xw⟩
end Go.Proofs.Ytgkpganbepbjnaa
