/-
  Numbers are written into a row of segments.
-/
import Derived.Test.YtiodlbgfgeimoaaMark
import Derived.Test.YtiodlbgfgeimoaaSegs
namespace Go.Proofs.Ytiodlbgfgeimoaa
open Go.RowKit
set_option linter.unusedSimpArgs false
set_option linter.unusedVariables false

theorem Fill.touch {w : World} {B n : Nat} {zs : List (Int × Int)} (h : Fill w B n 0 zs) (j : Nat) (v : Value) : Fill (w.setCell ⟨B, j, none⟩ v) B n 0 zs := by
  refine ⟨by simpa [World.setCell] using h.lt, fun k hk => ?_, fun k => by rw [frozen_set]; exact h.free k, fun k hk => by omega⟩
  obtain ⟨u, hu⟩ := h.there k hk
  by_cases hj : j = k
  · subst hj; exact ⟨_, cell_set_eq _ _ _ _ _ hu⟩
  · exact ⟨u, (cell_set_ne _ _ _ _ _ hj).trans hu⟩

set_option maxHeartbeats 4000000 in
theorem markSegmentS_any (B n : Nat) (s : Int) (zs : List (Int × Int)) (w : World) (hr : Fill w B n 0 zs) (hm : n ≤ 1048576) (hs : 0 ≤ s ∧ s ≤ 1000000000) :
    Calls Try.prog 35 #[.slice (some ⟨B, 0, none⟩) n n, .int .i64 s] w fun e w' => e = .returned (.int .i64 (s + 2 * n)) ∧ Wrote (some B) w w' := by
  go_enter Try.func35, Try.ntmps35
  go_wp2_with fail
  go_loopw [1, 5] (fun ss kk wr => ∃ i : Nat, kk = .int .i64 i ∧ ss = .int .i64 (s + 2 * i) ∧ i ≤ n ∧ Wrote (some B) w wr ∧ Fill wr B n 0 zs) (fun _ kk _ => n - (intOf kk).toNat)
  case atStart => exact ⟨0, rfl, by simp, Nat.zero_le _, Wrote.refl _ _, hr⟩
  case round =>
    clear hr
    obtain ⟨i, rfl, rfl, hi, xw, hf⟩ := hrel
    by_cases h0 : i < n
    · obtain ⟨u0, hu0⟩ := hf.there (i * 2) (by omega)
      obtain ⟨u1, hu1⟩ := hf.there (i * 2 + 1) (by omega)
      have z0 := hf.free (i * 2)
      have z1 := hf.free (i * 2 + 1)
      have t1 : decide ((i : Int) < (n : Int)) = true := by simp; omega
      have q1 : IntKind.i64.wrap (s + 2 * (i : Int) + 1) = s + 2 * (i : Int) + 1 := IntWalk.i64_in _ (by omega)
      have q2 : IntKind.i64.wrap (s + 2 * (i : Int) + 1 + 1) = s + 2 * (i : Int) + 1 + 1 := IntWalk.i64_in _ (by omega)
      go_wp2_with fail
      go_roundw
      case rel => exact ⟨i + 1, by go_num, by congr 1; omega, by omega, (xw.trans (Wrote.set _ _ _ _)).trans (Wrote.set _ _ _ _), (hf.touch _ _).touch _ _⟩
      case measure => simp [intOf]; omega
    · have hin : i = n := by omega
      subst hin
      have t1 : decide ((i : Int) < (i : Int)) = false := by simp
      clear hf
      go_wp2
      go_ret
      exact ⟨rfl, xw⟩
end Go.Proofs.Ytiodlbgfgeimoaa
